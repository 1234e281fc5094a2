/- Parts of the proof, in build order. No condition. -/
import Derived.Test.YtgmiihmahaahiaaGreatDoorQb09
import Derived.Test.YtgmiihmahaahiaaGreatDoorQb08
import Derived.Test.YtgmiihmahaahiaaGreatDoorQb03
import Derived.Test.YtgmiihmahaahiaaGreatDoorQb04
import Derived.Test.YtgmiihmahaahiaaGreatDoorProg
import Derived.Ground.NamesProg
import Derived.Shelf.Bits.Mul64
set_option linter.unusedSimpArgs false
set_option linter.unusedVariables false
set_option maxHeartbeats 1000000
set_option maxRecDepth 20000
namespace Go.Proofs.YtgmiihmahaahiaaGreatDoor
open Go.RowKit Go.Lp Go.Sy
open Go.Proofs.Tryz
attribute [local irreducible] aL aB awp aC fwp
theorem rQ (l : Sl Int) : Con Tryz.prog 44 [l.val] [ShF eD l] [] (YN (fun z : Int => .int .i64 z) fun _ => True) := by
 refine Con.enter Tryz.func44 rfl (by simp [Tryz.ntmps44]) ?_
 show awp _ _ _ _ ⟨[(0, true, _)], _, _⟩
 refine bf (.of (an 0 rfl)) (fun hlen => ?_)
 refine aSR (aA rfl (aNn (aSR (aA rfl (aNs (aSR (aM rfl (aU rfl (bq Tryz.underlying90 rfl) (aM rfl ?_)))))))))
 refine aNn (ax (aZ [0, 3, 6, 7, 8] [0] [] (fun (k : Nat) st => k ≤ l.l.length ∧ st = ⟨[(0, true, l.val), (3, true, .int .i64 0), (6, true, l.val), (7, true, .int .i64 l.l.length), (8, true, .int .i64 k)], [ShF eD l], []⟩) (fun k => l.l.length - k) rfl (⟨0, Nat.zero_le _, rfl⟩) ?_))
 rintro k st ⟨hk, rfl⟩
 refine aSR (aU rfl (bJ rfl rfl) (aNs ?_))
 refine ah _ rfl (fun h1 => ?_) (fun h1 => ?_)
 ·skip
  have hk' : k < l.l.length := by simp at h1; omega
  obtain ⟨a, ha⟩ : ∃ a, l.l[k]? = some a := ⟨l.l[k]'hk', by simp⟩
  refine au (aw (az (ax (aSR ?_))))
  refine cF true rfl rfl (fun _ => av Tryz.underlying90 tk3 rfl ((.of (an 0 rfl))) rfl (aS ha) rfl rfl) (fun h => absurd h (by decide)) (fun ⟨b4_0, o4_0⟩ => ?_)
  refine aU rfl (aR (o := 0) tk3 rfl (an 0 rfl) rfl rfl) (aA rfl (aNn (aSR (aM rfl (aM rfl (aU rfl (cN rfl rfl) (aNn ?_)))))))
  refine ah _ rfl (fun h2 => ?_) (fun h2 => ?_)
  ·skip
   refine aSR (aM rfl (aA rfl (aNn (aj (bC (aO (aO (bC (aO ?_)))))))))
   refine bc [] [] rfl Tryz.results44 rfl ?_ (.inr rfl)
   exact ⟨⟨rfl, rfl⟩, _, rfl, trivial⟩
  ·skip
   refine au (bL (aw (ai ?_)))
   refine aU rfl (bB rfl rfl (by omega)) ?_
   refine aM rfl (aNn ?_)
   refine ⟨[0, 3, 6, 7, 8], [0], [], rfl, ?_⟩
   exact ⟨k + 1, ⟨by omega, rfl⟩, by omega⟩
 ·skip
  refine bg (bj (bj (bz (aw (aSR (aM rfl (aA rfl (aNn (aj ?_)))))))))
  refine bc [] [] rfl Tryz.results44 rfl ?_ (.inr rfl)
  exact ⟨⟨rfl, rfl⟩, _, rfl, trivial⟩
theorem vN (b : Nat) (o : ar) (x : ew) : Con Tryz.prog 167 [x.val, .pointer (some ⟨b, 0, none⟩)] [At b 0 o.row, o.ok, x.ok] [] (YB True) := by
 refine Con.enter Tryz.func167 rfl (by simp [Tryz.ntmps167]) ?_
 show awp _ _ _ _ ⟨[(0, true, _), (1, true, _)], _, _⟩
 refine eE (ew.f_name (.of (an 2 rfl))) (fun hnl => ?_)
 refine aSR ?_
 refine al (q := true) rfl (bO rfl rfl rfl (fun b0_0 => ?_))
 refine aH (by (try simp only [nM, nN]); rfl) ?_
 refine aA rfl (aNs (aSR (aU rfl (aK (o := 0) tk145 rfl (.of (an 0 rfl)) rfl) ?_)))
 refine aU rfl (aa (off := 0) (by kernel_rfl) rfl) ?_
 refine aU rfl (ae 0 tk3 rfl rfl rfl) ?_
 refine aU rfl (aa (off := 1) (by kernel_rfl) rfl) ?_
 refine aU rfl (ae 0 tk3 rfl rfl rfl) ?_
 refine aU rfl (aa (off := 2) (by kernel_rfl) rfl) ?_
 refine aU rfl (ae 0 tk3 rfl rfl rfl) ?_
 refine aQ (caps := []) [1] (false) (by kernel_rfl) true rfl rfl (fun _ => rfl) (fun hc => rfl) (fun hc => by rw [List.append_nil]; exact k8 o _ _ _) (fun c1 hc1 => ?_)
 refine aU rfl (cm rfl) (aM rfl ?_)
 refine aG rfl rfl (fun hc => aa (off := 3) (by kernel_rfl) rfl) ?_
 refine aG rfl rfl (fun hc => ae 0 tk9 (ab rfl hc) rfl rfl) ?_
 refine aQ (caps := []) [] (false) (by kernel_rfl) _ rfl rfl (fun _ => rfl) (fun hc => (aN (ab rfl hc) rfl)) (fun hc => by rw [List.append_nil]; exact eR _ hnl) (fun c2 hc2 => ?_)
 refine aG rfl rfl (fun hc => cm (ab rfl hc)) (aU rfl (cx rfl rfl (fun h => gf rfl h)) (aNn ?_))
 refine ah _ rfl (fun h1 => ?_) (fun h1 => ?_)
 ·skip
  refine aSR (aA rfl (aNn (aj (aO ?_))))
  refine bc [] [] rfl Tryz.results167 rfl ?_ (.inr rfl)
  exact ⟨⟨rfl, rfl⟩, _, rfl, fun _ => trivial⟩
 ·skip
  refine au (aw (az (aSR ?_)))
  refine aU rfl (aa (off := 4) (by kernel_rfl) rfl) ?_
  refine aU rfl (ae 0 tk3 rfl rfl rfl) (aNn (ax (aSR (aU rfl (bK rfl rfl) (aA rfl (aNn ?_))))))
  refine ah _ rfl (fun h2 => ?_) (fun h2 => ?_)
  ·skip
   refine aSR ?_
   refine aU rfl (aa (off := 5) (by kernel_rfl) rfl) ?_
   refine aU rfl (ae 0 tk3 rfl rfl rfl) ?_
   refine aU rfl (bP (by kernel_rfl) rfl (fun w S fp hst => (cD _ _).quiet0 hst)) ?_
   refine aA rfl (aNn (aj (bC (aO ?_))))
   refine bc [] [] rfl Tryz.results167 rfl ?_ (.inr rfl)
   exact ⟨⟨rfl, rfl⟩, _, rfl, fun _ => trivial⟩
  ·skip
   refine aSR (aU rfl (bK rfl rfl) (aA rfl (aNn ?_)))
   refine ah _ rfl (fun h3 => ?_) (fun h3 => ?_)
   ·skip
    refine aSR ?_
    refine aU rfl (aa (off := 5) (by kernel_rfl) rfl) ?_
    refine aU rfl (ae 0 tk3 rfl rfl rfl) ?_
    refine aU rfl (bP (by kernel_rfl) rfl (fun w S fp hst => (cD _ _).quiet0 hst)) ?_
    refine aM rfl ?_
    refine aG rfl rfl (fun hc => aa (off := 5) (by kernel_rfl) rfl) ?_
    refine aG rfl rfl (fun hc => ae 0 tk3 (ab rfl hc) rfl rfl) ?_
    refine aG rfl rfl (fun hc => eJ (ab rfl hc) rfl (by decide)) ?_
    refine aG rfl rfl (fun hc => bK (ab rfl hc) rfl) (aU rfl (bA rfl rfl (fun h => gt rfl h)) (aA rfl (aNn (aj (bC (aO ?_))))))
    refine bc [] [] rfl Tryz.results167 rfl ?_ (.inr rfl)
    exact ⟨⟨rfl, rfl⟩, _, rfl, fun _ => trivial⟩
   ·skip
    refine aSR (aU rfl (bK rfl rfl) (aA rfl (aNn ?_)))
    refine ah _ rfl (fun h4 => ?_) (fun h4 => ?_)
    ·skip
     refine aSR (aU rfl (aK (o := 0) tk145 rfl (.of (an 0 rfl)) rfl) ?_)
     refine aU rfl (aa (off := 5) (by kernel_rfl) rfl) ?_
     refine aU rfl (ae 0 tk3 rfl rfl rfl) ?_
     refine aQ (caps := []) [1] (false) (by kernel_rfl) true rfl rfl (fun _ => rfl) (fun hc => rfl) (fun hc => by rw [List.append_nil]; exact lV o _ _) (fun c3 hc3 => ?_)
     refine aA rfl (aNn (aj (bC (aO ?_))))
     refine bc [] [] rfl Tryz.results167 rfl ?_ (.inr rfl)
     exact ⟨⟨rfl, rfl⟩, _, rfl, fun _ => trivial⟩
    ·skip
     refine au (bL (aw (aSR (aA rfl (aNn (aj ?_))))))
     refine bc [] [] rfl Tryz.results167 rfl ?_ (.inr rfl)
     exact ⟨⟨rfl, rfl⟩, _, rfl, fun _ => trivial⟩
theorem uq (x y : ew) (p : Per) : Con Tryz.prog 168 [x.val, y.val] [p] [] (YB True) := by
 refine Con.enter Tryz.func168 rfl (by simp [Tryz.ntmps168]) ?_
 show awp _ _ _ _ ⟨[(0, true, _), (1, true, _)], _, _⟩
 refine aSR ?_
 refine al (q := true) rfl (bO rfl rfl rfl (fun b0_0 => ?_))
 refine aH (by (try simp only [nM, nN]); rfl) ?_
 refine al (q := true) rfl (bO rfl rfl rfl (fun b0_1 => ?_))
 refine aH (by (try simp only [nM, nN]); rfl) ?_
 refine aA rfl (aNs ?_)
 refine bn [] (by kernel_rfl) ?_
 show aB _ _ _ _ _ 24 #[false, false, false, false, false, false, false, false, false, false, false, false, false, false, false, false, false, false, false, false, false, false, false, false] _
 refine bU 0 rfl (by kernel_rfl) rfl (aa (off := 0) (by kernel_rfl) rfl) ?_
 refine bU 1 rfl (by kernel_rfl) rfl (ae 0 tk3 rfl rfl rfl) ?_
 refine bU 2 rfl (by kernel_rfl) rfl (aa (off := 0) (by kernel_rfl) rfl) ?_
 refine bU 3 rfl (by kernel_rfl) rfl (ae 1 tk3 rfl rfl rfl) ?_
 refine bU 4 rfl (by kernel_rfl) rfl (bP (by kernel_rfl) rfl (fun w S fp hst => (fH _ _).quiet0 hst)) ?_
 refine bU 5 rfl (by kernel_rfl) rfl (aa (off := 1) (by kernel_rfl) rfl) ?_
 refine bU 6 rfl (by kernel_rfl) rfl (ae 0 tk3 rfl rfl rfl) ?_
 refine bU 7 rfl (by kernel_rfl) rfl (aa (off := 1) (by kernel_rfl) rfl) ?_
 refine bU 8 rfl (by kernel_rfl) rfl (ae 1 tk3 rfl rfl rfl) ?_
 refine bU 9 rfl (by kernel_rfl) rfl (bP (by kernel_rfl) rfl (fun w S fp hst => (fH _ _).quiet0 hst)) ?_
 refine bU 10 rfl (by kernel_rfl) rfl (aa (off := 2) (by kernel_rfl) rfl) ?_
 refine bU 11 rfl (by kernel_rfl) rfl (ae 0 tk3 rfl rfl rfl) ?_
 refine bU 12 rfl (by kernel_rfl) rfl (aa (off := 2) (by kernel_rfl) rfl) ?_
 refine bU 13 rfl (by kernel_rfl) rfl (ae 1 tk3 rfl rfl rfl) ?_
 refine bU 14 rfl (by kernel_rfl) rfl (bP (by kernel_rfl) rfl (fun w S fp hst => (fH _ _).quiet0 hst)) ?_
 refine bU 15 rfl (by kernel_rfl) rfl (aa (off := 3) (by kernel_rfl) rfl) ?_
 refine bU 16 rfl (by kernel_rfl) rfl (ae 0 tk9 rfl rfl rfl) ?_
 refine bU 17 rfl (by kernel_rfl) rfl (aa (off := 3) (by kernel_rfl) rfl) ?_
 refine bU 18 rfl (by kernel_rfl) rfl (ae 1 tk9 rfl rfl rfl) ?_
 refine bU 19 rfl (by kernel_rfl) rfl (bP (by kernel_rfl) rfl (fun w S fp hst => (ly _ _).quiet0 hst)) ?_
 refine gM (zs := [.int .i64 0]) (l := [(0, .tmp 9), (1, .tmp 14), (2, .tmp 19), (3, .tmp 24)]) 20 rfl (by kernel_rfl) el90 (by kernel_rfl) (by decide) (by decide) (by decide) rfl rfl rfl rfl (.more rfl (.v rfl .nil) (.more rfl (.v rfl .nil) (.more rfl (.v rfl .nil) (.more rfl (.v rfl .nil) .nil)))) rfl rfl (fun v1_20 => ?_)
 refine ea (caps := []) 21 rfl (by kernel_rfl) [1] ((0 : Int)) (by kernel_rfl) true rfl rfl (fun _ => rfl) (fun hc => rfl) (fun hc => by rw [List.append_nil]; exact rQ ⟨v1_20, 4, [hP x.sec y.sec, hP x.from_ y.from_, hP x.to_ y.to_, kx x.name y.name]⟩) (fun c1 hc1 => ?_)
 refine bU 22 rfl (by kernel_rfl) rfl (bJ rfl rfl) ?_
 refine bU 23 rfl (by kernel_rfl) rfl (bk rfl) ?_
 refine bS (by kernel_rfl) ?_
 refine aw (aj ?_)
 refine bc [] [] rfl Tryz.results168 rfl ?_ (.inr rfl)
 exact ⟨⟨rfl, rfl⟩, _, rfl, fun _ => trivial⟩
theorem tY (o : ar) : Con Tryz.prog 74 [o.val] [o.ok] [] (YB True) := by
 refine Con.enter Tryz.func74 rfl (by simp [Tryz.ntmps74]) ?_
 show awp _ _ _ _ ⟨[(0, true, _)], _, _⟩
 refine aSR ?_
 refine al (q := true) rfl (bO rfl rfl rfl (fun b0_0 => ?_))
 refine aH (by (try simp only [nM, nN]); rfl) ?_
 refine aA rfl (aNn (aSR (aU rfl (dn (l := [.tmp 1]) rfl) (aA rfl (cA ?_)))))
 refine aw (aSR (aA rfl (aNs (bT 0 rfl rfl ?_))))
 show awp _ _ _ _ ⟨_, At _ 0 _ :: _, _⟩
 refine ai ?_
 refine aU rfl (aa (off := 0) (by kernel_rfl) rfl) ?_
 refine aU rfl (aa (off := 8) (by kernel_rfl) rfl) ?_
 refine aU rfl (aK (o := 8) tk57 rfl (.of (an 0 rfl)) rfl) (aM rfl ?_)
 refine aQ (caps := []) [1, 0] (false) (by kernel_rfl) true rfl rfl (fun _ => rfl) (fun hc => rfl) (fun hc => by rw [List.append_nil]; exact (me o.vars 167 [.pointer (some ⟨b0_0, 0, none⟩)] (cw (At b0_0 0 o.row) o.ok) (fun _ => True) (by kernel_rfl) (fun x hx => (vN b0_0 o x).pre (ra ff.left ff.right (.allm (ar.f_varsA ff.right) hx)))).pre (el (ar.f_vars (.of (an 1 rfl))) (.mk2 (.of (an 0 rfl)) (.of (an 1 rfl))))) (fun c1 hc1 => ?_)
 refine aM rfl ?_
 refine aG rfl rfl (fun hc => aa (off := 0) (by kernel_rfl) rfl) ?_
 refine aG rfl rfl (fun hc => aa (off := 8) (by kernel_rfl) (ab rfl hc)) ?_
 refine aG rfl rfl (fun hc => aK (o := 8) tk57 (ab rfl hc) (.of (an 0 rfl)) rfl) (aG rfl rfl (fun hc => aq rfl) ?_)
 refine aQ (caps := []) [0] (false) (by kernel_rfl) _ rfl rfl (fun _ => rfl) (fun hc => (aN (ab rfl hc) (aN (ab rfl hc) rfl))) (fun hc => by rw [List.append_nil]; exact (mu o.vars 168 [] o.ok (by kernel_rfl) (fun x _ y _ => uq x y _)).pre (el (ar.f_vars (.of (an 0 rfl))) (.of (an 0 rfl)))) (fun c2 hc2 => ?_)
 refine aU rfl (bA rfl rfl (fun h => gt rfl h)) (aA rfl (aNn (aj ?_)))
 refine bc [] [] rfl Tryz.results74 rfl ?_ (.inr rfl)
 exact ⟨⟨rfl, rfl⟩, _, rfl, fun _ => trivial⟩
theorem vQ (b : Nat) (o : ar) (x : cd) : Con Tryz.prog 164 [x.val, .pointer (some ⟨b, 0, none⟩)] [At b 0 o.row, o.ok, x.ok] [] (YB True) := by
 refine Con.enter Tryz.func164 rfl (by simp [Tryz.ntmps164]) ?_
 show awp _ _ _ _ ⟨[(0, true, _), (1, true, _)], _, _⟩
 refine eE (cd.f_name (.of (an 2 rfl))) (fun hnl => ?_)
 refine eE (cd.f_file (.of (an 2 rfl))) (fun hfl => ?_)
 refine aSR ?_
 refine al (q := true) rfl (bO rfl rfl rfl (fun b0_0 => ?_))
 refine aH (by (try simp only [nM, nN]); rfl) ?_
 refine aA rfl (aNn (aSR (aU rfl (aK (o := 0) tk145 rfl (.of (an 0 rfl)) rfl) ?_)))
 refine aU rfl (aa (off := 0) (by kernel_rfl) rfl) ?_
 refine aU rfl (ae 0 tk3 rfl rfl rfl) ?_
 refine aU rfl (aa (off := 1) (by kernel_rfl) rfl) ?_
 refine aU rfl (ae 0 tk3 rfl rfl rfl) ?_
 refine aU rfl (aa (off := 2) (by kernel_rfl) rfl) ?_
 refine aU rfl (ae 0 tk3 rfl rfl rfl) ?_
 refine aQ (caps := []) [1] (false) (by kernel_rfl) true rfl rfl (fun _ => rfl) (fun hc => rfl) (fun hc => by rw [List.append_nil]; exact k8 o _ _ _) (fun c1 hc1 => ?_)
 refine aM rfl ?_
 refine aG rfl rfl (fun hc => aa (off := 3) (by kernel_rfl) rfl) ?_
 refine aG rfl rfl (fun hc => ae 0 tk9 (ab rfl hc) rfl rfl) ?_
 refine aQ (caps := []) [] (false) (by kernel_rfl) _ rfl rfl (fun _ => rfl) (fun hc => (aN (ab rfl hc) rfl)) (fun hc => by rw [List.append_nil]; exact eR _ hnl) (fun c2 hc2 => ?_)
 refine aU rfl (bA rfl rfl (fun h => gt rfl h)) (aM rfl ?_)
 refine aG rfl rfl (fun hc => aa (off := 4) (by kernel_rfl) rfl) ?_
 refine aG rfl rfl (fun hc => ae 0 tk9 (ab rfl hc) rfl rfl) ?_
 refine aQ (caps := []) [] (false) (by kernel_rfl) _ rfl rfl (fun _ => rfl) (fun hc => (aN (ab rfl hc) rfl)) (fun hc => by rw [List.append_nil]; exact mF _ hfl) (fun c3 hc3 => ?_)
 refine aU rfl (bA rfl rfl (fun h => gt rfl h)) (aM rfl ?_)
 refine aG rfl rfl (fun hc => aa (off := 5) (by kernel_rfl) rfl) ?_
 refine aG rfl rfl (fun hc => ae 0 tk3 (ab rfl hc) rfl rfl) (aG rfl rfl (fun hc => cQ (ab rfl hc) rfl) (aU rfl (bA rfl rfl (fun h => gt rfl h)) (aM rfl ?_)))
 refine aG rfl rfl (fun hc => aa (off := 5) (by kernel_rfl) rfl) ?_
 refine aG rfl rfl (fun hc => ae 0 tk3 (ab rfl hc) rfl rfl) (aG rfl rfl (fun hc => eG (ab rfl hc) rfl) (aU rfl (bA rfl rfl (fun h => gt rfl h)) (aA rfl (aNn (aj ?_)))))
 refine bc [] [] rfl Tryz.results164 rfl ?_ (.inr rfl)
 exact ⟨⟨rfl, rfl⟩, _, rfl, fun _ => trivial⟩
theorem nS (o : ar) (hn : o.inlines.l.length ≤ 1000) : Con Tryz.prog 73 [o.val] [o.ok] [] (YB True) := by
 refine Con.enter Tryz.func73 rfl (by simp [Tryz.ntmps73]) ?_
 show awp _ _ _ _ ⟨[(0, true, _)], _, _⟩
 refine bf (ar.f_inlines (.of (an 0 rfl))) (fun hlen => ?_)
 refine aSR ?_
 refine al (q := true) rfl (bO rfl rfl rfl (fun b0_0 => ?_))
 refine aH (by (try simp only [nM, nN]); rfl) ?_
 refine aA rfl (aNs (az (bT 0 rfl rfl ?_)))
 show awp _ _ _ _ ⟨_, At _ 0 _ :: _, _⟩
 refine ai ?_
 refine aU rfl (aa (off := 0) (by kernel_rfl) rfl) ?_
 refine aU rfl (aa (off := 7) (by kernel_rfl) rfl) ?_
 refine aU rfl (aK (o := 7) tk56 rfl (.of (an 0 rfl)) rfl) (aU rfl (dn (l := [.tmp 1]) rfl) ?_)
 refine aQ (caps := []) [1, 0] (false) (by kernel_rfl) true rfl rfl (fun _ => rfl) (fun hc => rfl) (fun hc => by rw [List.append_nil]; exact (jQ o.inlines 164 [.pointer (some ⟨b0_0, 0, none⟩)] (cw (At b0_0 0 o.row) o.ok) (fun _ => True) (by kernel_rfl) (fun x hx => (vQ b0_0 o x).pre (ra ff.left ff.right (.allm (ar.f_inlinesA ff.right) hx)))).pre (el (ar.f_inlines (.of (an 1 rfl))) (.mk2 (.of (an 0 rfl)) (.of (an 1 rfl))))) (fun c1 hc1 => ?_)
 refine aU rfl (cm rfl) (aNn ?_)
 refine ah _ rfl (fun h1 => ?_) (fun h1 => ?_)
 ·skip
  refine aSR (aA rfl (aNn (aj (aO ?_))))
  refine bc [] [] rfl Tryz.results73 rfl ?_ (.inr rfl)
  exact ⟨⟨rfl, rfl⟩, _, rfl, fun _ => trivial⟩
 ·skip
  refine au (aw (aSR (aA rfl (aNs ?_))))
  refine az (eZ 200 6 ?_)
  show awp _ _ _ _ ⟨_, _, [_, _]⟩
  refine ai ?_
  refine aU rfl (aa (off := 0) (by kernel_rfl) rfl) ?_
  refine aU rfl (aa (off := 7) (by kernel_rfl) rfl) ?_
  refine aU rfl (aK (o := 7) tk56 rfl (.of (an 0 rfl)) rfl) (aU rfl (bq Tryz.underlying56 rfl) (aM rfl (aNn (ax (aZ [1, 3, 15, 16, 17] [1, 0] [1] (fun (q : Nat × (Value × List cd)) s => (q.1 ≤ o.inlines.l.length ∧ q.2.2.length ≤ q.1) ∧ s = ⟨[(1, true, .pointer (some ⟨b0_0, 0, none⟩)), (3, true, q.2.1), (15, true, o.inlines.val), (16, true, .int .i64 o.inlines.l.length), (17, true, .int .i64 q.1)], [At b0_0 0 o.row, o.ok], [bH q.2.1 200 6 (q.2.2.map cd.row)]⟩) (fun q => o.inlines.l.length - q.1) rfl (⟨(0, (_, [])), ⟨Nat.zero_le _, Nat.le_refl _⟩, rfl⟩) ?_)))))
  rintro ⟨k, v, zs⟩ s ⟨⟨hk, hz⟩, rfl⟩
  dsimp only at hk hz
  refine aSR (aU rfl (bJ rfl rfl) (aNs ?_))
  refine ah _ rfl (fun h2 => ?_) (fun h2 => ?_)
  ·skip
   have hk' : k < o.inlines.l.length := by simp at h2; omega
   obtain ⟨x, hx⟩ : ∃ x, o.inlines.l[k]? = some x := ⟨_, List.getElem?_eq_getElem hk'⟩
   refine au (aw (az (ax (aSR (aM rfl ?_)))))
   refine cF true rfl rfl (fun _ => av Tryz.underlying56 tk200 rfl ((ar.f_inlines (.of (an 1 rfl)))) rfl (aS hx) rfl rfl) (fun h => absurd h (by decide)) (fun ⟨b6_1, o6_1⟩ => ?_)
   refine aU rfl (aR (o := 0) tk200 rfl (an 0 rfl) rfl rfl) ?_
   refine al (q := true) rfl (bp (zs := [.int .i64 0, .int .i64 0, .int .i64 0, .string .empty, .string .empty, .int .i64 0]) (by kernel_rfl) rfl (fun b6_3 => ?_))
   refine aH (by (try simp only [nM, nN]); rfl) ?_
   refine aA rfl ?_
   refine al rfl (aW 1 tk200 rfl rfl rfl rfl ?_)
   refine aH (by (try simp only [nK, nL]); rfl) ?_
   refine aNs ?_
   refine pr (X := Nat) (fun q => ⟨[(1, true, .pointer (some ⟨b0_0, 0, none⟩)), (3, true, v), (5, true, .pointer (some ⟨q, 0, none⟩)), (15, true, o.inlines.val), (16, true, .int .i64 o.inlines.l.length), (17, true, .int .i64 k)], [At b0_0 0 o.row, o.ok], [bH v 200 6 (zs.map cd.row), Box q 200 x.vs]⟩) ?_ ?_
   ·skip
    refine aSR (aM rfl (aU rfl (dp rfl rfl) (aNn ?_)))
    refine ah _ rfl (fun h3 => ?_) (fun h3 => ?_)
    ·skip
     obtain ⟨j, rfl⟩ : ∃ j, k = j + 1 := ⟨k - 1, by simp at h3; omega⟩
     obtain ⟨y, hy⟩ : ∃ y, o.inlines.l[j]? = some y := ⟨_, List.getElem?_eq_getElem (by omega)⟩
     refine aSR ?_
     refine aU rfl (aa (off := 0) (by kernel_rfl) rfl) ?_
     refine aU rfl (aa (off := 7) (by kernel_rfl) rfl) ?_
     refine aU rfl (aK (o := 7) tk56 rfl (.of (an 1 rfl)) rfl) (aM rfl ?_)
     refine aU rfl (dT rfl rfl (by omega)) ?_
     refine cF true rfl rfl (fun _ => av Tryz.underlying56 tk200 rfl ((ar.f_inlines (.of (an 2 rfl)))) rfl (aS hy) (by omega) rfl) (fun h => absurd h (by decide)) (fun ⟨b8_5, o8_5⟩ => ?_)
     refine aU rfl (aR (o := 0) tk200 rfl (an 0 rfl) rfl rfl) ?_
     refine al (q := true) rfl (bp (zs := [.int .i64 0, .int .i64 0, .int .i64 0, .string .empty, .string .empty, .int .i64 0]) (by kernel_rfl) rfl (fun b8_7 => ?_))
     refine aH (by (try simp only [nM, nN]); rfl) ?_
     refine al rfl (aW 2 tk200 rfl rfl rfl rfl ?_)
     refine aH (by (try simp only [nK, nL]); rfl) ?_
     refine aNs ?_
     refine bn [] (by kernel_rfl) ?_
     show aB _ _ _ _ _ 18 #[false, false, false, false, false, false, false, false, false, false, false, false, false, false, false, false, false, false] _
     refine bU 0 rfl (by kernel_rfl) rfl (aa (off := 0) (by kernel_rfl) rfl) ?_
     refine bU 1 rfl (by kernel_rfl) rfl (ae 2 tk3 rfl rfl rfl) ?_
     refine bU 2 rfl (by kernel_rfl) rfl (aa (off := 0) (by kernel_rfl) rfl) ?_
     refine bU 3 rfl (by kernel_rfl) rfl (ae 1 tk3 rfl rfl rfl) ?_
     refine bU 4 rfl (by kernel_rfl) rfl (bP (by kernel_rfl) rfl (fun w S fp hst => (fH _ _).quiet0 hst)) ?_
     refine bU 5 rfl (by kernel_rfl) rfl (aa (off := 1) (by kernel_rfl) rfl) ?_
     refine bU 6 rfl (by kernel_rfl) rfl (ae 2 tk3 rfl rfl rfl) ?_
     refine bU 7 rfl (by kernel_rfl) rfl (aa (off := 1) (by kernel_rfl) rfl) ?_
     refine bU 8 rfl (by kernel_rfl) rfl (ae 1 tk3 rfl rfl rfl) ?_
     refine bU 9 rfl (by kernel_rfl) rfl (bP (by kernel_rfl) rfl (fun w S fp hst => (fH _ _).quiet0 hst)) ?_
     refine bU 10 rfl (by kernel_rfl) rfl (aa (off := 2) (by kernel_rfl) rfl) ?_
     refine bU 11 rfl (by kernel_rfl) rfl (ae 1 tk3 rfl rfl rfl) ?_
     refine bU 12 rfl (by kernel_rfl) rfl (aa (off := 2) (by kernel_rfl) rfl) ?_
     refine bU 13 rfl (by kernel_rfl) rfl (ae 2 tk3 rfl rfl rfl) ?_
     refine bU 14 rfl (by kernel_rfl) rfl (bP (by kernel_rfl) rfl (fun w S fp hst => (fH _ _).quiet0 hst)) ?_
     refine gM (zs := [.int .i64 0]) (l := [(0, .tmp 35), (1, .tmp 40), (2, .tmp 45)]) 15 rfl (by kernel_rfl) el90 (by kernel_rfl) (by decide) (by decide) (by decide) rfl rfl rfl rfl (.more rfl (.v rfl .nil) (.more rfl (.v rfl .nil) (.more rfl (.v rfl .nil) .nil))) rfl rfl (fun v9_15 => ?_)
     refine ea (caps := []) 16 rfl (by kernel_rfl) [4] ((0 : Int)) (by kernel_rfl) true rfl rfl (fun _ => rfl) (fun hc => rfl) (fun hc => by rw [List.append_nil]; exact rQ ⟨v9_15, 3, [hP y.sec x.sec, hP y.from_ x.from_, hP x.to_ y.to_]⟩) (fun c2 hc2 => ?_)
     refine bU 17 rfl (by kernel_rfl) rfl (dp rfl rfl) ?_
     refine bS (by kernel_rfl) ?_
     refine aw ?_
     refine ah _ rfl (fun h4 => ?_) (fun h4 => ?_)
     ·skip
      refine aSR (aA rfl (aNn (aj (aO (bC (aO (aO (bC (aO ?_)))))))))
      refine bc [] [] rfl Tryz.results73 rfl ?_ (.inr rfl)
      exact ⟨⟨rfl, rfl⟩, _, rfl, fun _ => trivial⟩
     ·skip
      refine au (aw ?_)
      first
      | exact ⟨[1, 3, 5, 15, 16, 17], [1, 0], [0, 1], b6_3, rfl, rfl⟩
      | exact ⟨[1, 3, 5, 15, 16, 17], [1, 0], [0, 1], b6_3, rfl, rfl⟩
    ·skip
     refine au (aw ?_)
     first
     | exact ⟨[1, 3, 5, 15, 16, 17], [1, 0], [0, 1], b6_3, rfl, rfl⟩
     | exact ⟨[1, 3, 5, 15, 16, 17], [1, 0], [0, 1], b6_3, rfl, rfl⟩
   ·skip
    rintro bx
    refine az (ax (aZ [1, 3, 5, 15, 16, 17] [1, 0] [0, 1] (fun (q : Value × List cd) s => q.2.length ≤ k ∧ s = ⟨[(1, true, .pointer (some ⟨b0_0, 0, none⟩)), (3, true, q.1), (5, true, .pointer (some ⟨bx, 0, none⟩)), (15, true, o.inlines.val), (16, true, .int .i64 o.inlines.l.length), (17, true, .int .i64 k)], [At b0_0 0 o.row, o.ok], [bH q.1 200 6 (q.2.map cd.row), Box bx 200 x.vs]⟩) (fun q => q.2.length) rfl (⟨(v, zs), hz, rfl⟩) ?_))
    rintro ⟨u, ys⟩ s ⟨hy, rfl⟩
    dsimp only at hy
    refine az (az ?_)
    refine bn [] (by kernel_rfl) ?_
    show aB _ _ _ _ _ 27 #[false, false, false, false, false, false, false, false, false, false, false, false, false, false, false, false, false, false, false, false, false, false, false, false, false, false, false] _
    refine bU 0 rfl (by kernel_rfl) rfl (aq rfl) ?_
    refine bU 1 rfl (by kernel_rfl) rfl (fq 0 Tryz.underlying56 rfl rfl) ?_
    refine bU 2 rfl (by kernel_rfl) rfl (dp rfl rfl) ?_
    refine bU 3 rfl (by kernel_rfl) rfl (aq rfl) ?_
    refine bG 4 rfl (by kernel_rfl) rfl rfl (fun hc => aq rfl) ?_
    refine bG 5 rfl (by kernel_rfl) rfl rfl (fun hc => aq rfl) ?_
    refine bG 6 rfl (by kernel_rfl) rfl rfl (fun hc => fq 0 Tryz.underlying56 (ab rfl hc) rfl) ?_
    refine bG 7 rfl (by kernel_rfl) rfl rfl (fun hc => dT (ab rfl hc) rfl (by simp only [List.length_map] at hc ⊢; omega)) ?_
    refine bG 8 rfl (by kernel_rfl) rfl rfl (fun hc => dU 0 (ys.length - 1) el56 (ab rfl hc) rfl (ab rfl hc) (by simp at hc ⊢; omega) (by simp at hc ⊢; omega)) ?_
    refine bG 9 rfl (by kernel_rfl) rfl rfl (fun hc => aa (off := 0) (by kernel_rfl) (ab rfl hc)) ?_
    refine bG 10 rfl (by kernel_rfl) rfl rfl (fun hc => ej 0 (ys.length - 1) 0 tk3 (ab rfl hc) rfl (aS (bY (l := ys) (i := ys.length - 1) (by simp at hc; omega))) rfl rfl) ?_
    refine bG 11 rfl (by kernel_rfl) rfl rfl (fun hc => aa (off := 0) (by kernel_rfl) rfl) ?_
    refine bG 12 rfl (by kernel_rfl) rfl rfl (fun hc => ae 1 tk3 (ab rfl hc) rfl rfl) ?_
    refine bG 13 rfl (by kernel_rfl) rfl rfl (fun hc => cN (ab rfl hc) (ab rfl hc)) ?_
    refine bG 14 rfl (by kernel_rfl) rfl rfl (fun hc => aq (ab rfl hc)) ?_
    refine bG 15 rfl (by kernel_rfl) rfl rfl (fun hc => aq rfl) ?_
    refine bG 16 rfl (by kernel_rfl) rfl rfl (fun hc => aq rfl) ?_
    refine bG 17 rfl (by kernel_rfl) rfl rfl (fun hc => fq 0 Tryz.underlying56 (ab rfl hc) rfl) ?_
    refine bG 18 rfl (by kernel_rfl) rfl rfl (fun hc => dT (ab rfl hc) rfl (by simp only [List.length_map] at hc ⊢; omega)) ?_
    refine bG 19 rfl (by kernel_rfl) rfl rfl (fun hc => dU 0 (ys.length - 1) el56 (ab rfl hc) rfl (ab rfl hc) (by simp at hc ⊢; omega) (by simp at hc ⊢; omega)) ?_
    refine bG 20 rfl (by kernel_rfl) rfl rfl (fun hc => aa (off := 2) (by kernel_rfl) (ab rfl hc)) ?_
    refine bG 21 rfl (by kernel_rfl) rfl rfl (fun hc => ej 0 (ys.length - 1) 2 tk3 (ab rfl hc) rfl (aS (bY (l := ys) (i := ys.length - 1) (by simp at hc; omega))) rfl rfl) ?_
    refine bG 22 rfl (by kernel_rfl) rfl rfl (fun hc => aa (off := 1) (by kernel_rfl) rfl) ?_
    refine bG 23 rfl (by kernel_rfl) rfl rfl (fun hc => ae 1 tk3 (ab rfl hc) rfl rfl) ?_
    refine bG 24 rfl (by kernel_rfl) rfl rfl (fun hc => eG (ab rfl hc) (ab rfl hc)) ?_
    refine bG 25 rfl (by kernel_rfl) rfl rfl (fun hc => cx (ab rfl hc) rfl (fun h => gf hc h)) ?_
    refine bU 26 rfl (by kernel_rfl) rfl (bA rfl rfl (fun h => gt rfl h)) ?_
    refine bS (by kernel_rfl) ?_
    refine aw ?_
    refine ah _ rfl (fun h5 => ?_) (fun h5 => ?_)
    ·skip
     refine au (aw (ax ?_))
     have hne : ys ≠ [] := by intro h0; subst h0; simp at h5
     have hlp : 0 < ys.length := List.length_pos_iff.2 hne
     refine iH 0 rfl (by simpa using hne) (fun B cp hv hcp => ?_)
     rw [List.length_map] at hv hcp
     dsimp only at hv hcp h5 ⊢
     subst hv
     refine uW 0 (ys.length - 1) rfl (by simp) ?_
     refine ai (aM rfl (aM rfl (aU rfl (bq Tryz.underlying56 rfl) ?_)))
     refine aU rfl (dT rfl rfl (by omega)) ?_
     refine aU rfl (mV (ys.length - 1) el56 rfl rfl (by omega) (by omega) hcp) ?_
     refine aA rfl (cA (bL (aw ?_)))
     refine ⟨[1, 3, 5, 15, 16, 17], [1, 0], [0, 1], rfl, ?_⟩
     exact ⟨(_, ys.take (ys.length - 1)), ⟨by dsimp only; rw [List.length_take]; omega, by dsimp only; rw [List.map_take]; rfl⟩, by dsimp only; rw [List.length_take]; omega⟩
    ·skip
     refine bg (bj (bj (bz (aw (az (az ?_))))))
     refine bn [] (by kernel_rfl) ?_
     show aB _ _ _ _ _ 15 #[false, false, false, false, false, false, false, false, false, false, false, false, false, false, false] _
     refine bU 0 rfl (by kernel_rfl) rfl (aq rfl) ?_
     refine bU 1 rfl (by kernel_rfl) rfl (fq 0 Tryz.underlying56 rfl rfl) ?_
     refine bU 2 rfl (by kernel_rfl) rfl (dp rfl rfl) ?_
     refine bU 3 rfl (by kernel_rfl) rfl (aq rfl) ?_
     refine bG 4 rfl (by kernel_rfl) rfl rfl (fun hc => aq rfl) ?_
     refine bG 5 rfl (by kernel_rfl) rfl rfl (fun hc => aq rfl) ?_
     refine bG 6 rfl (by kernel_rfl) rfl rfl (fun hc => fq 0 Tryz.underlying56 (ab rfl hc) rfl) ?_
     refine bG 7 rfl (by kernel_rfl) rfl rfl (fun hc => dT (ab rfl hc) rfl (by simp only [List.length_map] at hc ⊢; omega)) ?_
     refine bG 8 rfl (by kernel_rfl) rfl rfl (fun hc => dU 0 (ys.length - 1) el56 (ab rfl hc) rfl (ab rfl hc) (by simp at hc ⊢; omega) (by simp at hc ⊢; omega)) ?_
     refine bG 9 rfl (by kernel_rfl) rfl rfl (fun hc => aa (off := 2) (by kernel_rfl) (ab rfl hc)) ?_
     refine bG 10 rfl (by kernel_rfl) rfl rfl (fun hc => ej 0 (ys.length - 1) 2 tk3 (ab rfl hc) rfl (aS (bY (l := ys) (i := ys.length - 1) (by simp at hc; omega))) rfl rfl) ?_
     refine bG 11 rfl (by kernel_rfl) rfl rfl (fun hc => aa (off := 2) (by kernel_rfl) rfl) ?_
     refine bG 12 rfl (by kernel_rfl) rfl rfl (fun hc => ae 1 tk3 (ab rfl hc) rfl rfl) ?_
     refine bG 13 rfl (by kernel_rfl) rfl rfl (fun hc => bJ (ab rfl hc) (ab rfl hc)) ?_
     refine bU 14 rfl (by kernel_rfl) rfl (bA rfl rfl (fun h => gt rfl h)) ?_
     refine bS (by kernel_rfl) ?_
     refine aw ?_
     refine ah _ rfl (fun h6 => ?_) (fun h6 => ?_)
     ·skip
      refine aSR (aA rfl (aNn (aj (aO (bC (aO (aO (bC (aO ?_)))))))))
      refine bc [] [] rfl Tryz.results73 rfl ?_ (.inr rfl)
      exact ⟨⟨rfl, rfl⟩, _, rfl, fun _ => trivial⟩
     ·skip
      refine au (aw (ai (aM rfl (aU rfl (ae 1 tk200 rfl rfl rfl) ?_))))
      refine al (q := true) rfl (cz (zs := [.int .i64 0, .int .i64 0, .int .i64 0, .string .empty, .string .empty, .int .i64 0]) (l := [(0, .tmp 97)]) el56 (by kernel_rfl) (by decide) (by decide) (by decide) rfl rfl rfl (.more rfl (.v rfl (.v rfl (.v rfl (.v rfl (.v rfl (.v rfl .nil)))))) .nil) rfl rfl (fun v15_2 => ?_))
      refine aH (by (try simp only [nM, nN]); rfl) ?_
      refine al rfl (bX 0 el56 rfl rfl rfl rfl (cH 2 el56 rfl (by simp)) (by first | assumption | simp) (by show (ys.map cd.row).length + 1 ≤ _; rw [List.length_map]; exact Nat.le_trans (show ys.length + 1 ≤ 1001 by omega) (by decide)) ((ys ++ [x]).length) (by show (ys.map cd.row).length + 1 = _; rw [List.length_map, List.length_append]; rfl) (fun v15_3 c15_3 => ?_))
      refine aH (by (try simp only [nK, nL]); rfl) ?_
      refine aA rfl (cA (bL (aw (ai ?_))))
      refine aU rfl (bB rfl rfl (by omega)) ?_
      refine aM rfl (aNn ?_)
      refine ⟨[1, 3, 15, 16, 17], [1, 0], [0], rfl, ?_⟩
      exact ⟨(k + 1, (_, ys ++ [x])), ⟨⟨by dsimp only; omega, by dsimp only; rw [List.length_append]; simp; omega⟩, by dsimp only; rw [List.map_append]; rfl⟩, by dsimp only; omega⟩
  ·skip
   refine bg (bj (bj (bz (aw (aSR (aA rfl (aNn (aj ?_))))))))
   refine bc [] [] rfl Tryz.results73 rfl ?_ (.inr rfl)
   exact ⟨⟨rfl, rfl⟩, _, rfl, fun _ => trivial⟩
end Go.Proofs.YtgmiihmahaahiaaGreatDoor

namespace Go.Proofs.YtgmiihmahaahiaaGreatDoor
open Go.RowKit Go.Lp Go.Sy
open Go.Proofs.Tryz
attribute [local irreducible] aL aB awp aC fwp
theorem tk189 : tyk Tryz.prog 189 = some (false, 1) := by kernel_rfl
theorem pa (a n s : Int) (p : Per) : Con Tryz.prog 176 [.int .i64 a, .int .i64 n, .int .i64 s] [p] [] (YB True) := by
 refine Con.enter Tryz.func176 rfl (by simp [Tryz.ntmps176]) ?_
 show awp _ _ _ _ ⟨[(0, true, _), (1, true, _), (2, true, _)], _, _⟩
 refine aSR (aA rfl (aNn (aSR (aM rfl (aU rfl (cQ rfl rfl) (aM rfl (aG rfl rfl (fun hc => aq rfl) (aG rfl rfl (fun hc => cQ (ab rfl hc) rfl) (aU rfl (bA rfl rfl (fun h => gt rfl h)) (aM rfl (aG rfl rfl (fun hc => aq rfl) (aG rfl rfl (fun hc => aq rfl) ?_))))))))))))
 refine aG rfl rfl (fun hc => eG (ab rfl hc) (ab rfl hc)) (aU rfl (bA rfl rfl (fun h => gt rfl h)) (aM rfl (aG rfl rfl (fun hc => aq rfl) (aG rfl rfl (fun hc => aq rfl) (aG rfl rfl (fun hc => aq rfl) (aG rfl rfl (fun hc => pW (ab rfl hc) (ab rfl hc)) (aG rfl rfl (fun hc => eG (ab rfl hc) (ab rfl hc)) (aU rfl (bA rfl rfl (fun h => gt rfl h)) (aA rfl (aNn (aj ?_)))))))))))
 refine bc [] [] rfl Tryz.results176 rfl ?_ (.inr rfl)
 exact ⟨⟨rfl, rfl⟩, _, rfl, fun _ => trivial⟩
theorem wb (b1 b2 : Nat) (n : Int) (x : dw) : Con Tryz.prog 178 [x.val, .pointer (some ⟨b1, 0, none⟩), .pointer (some ⟨b2, 0, none⟩)] [At b1 0 [.v (.func (.func 176) #[] #[])], At b2 0 [.v (.int .i64 n)]] [] (YB True) := by
 refine Con.enter Tryz.func178 rfl (by simp [Tryz.ntmps178]) ?_
 show awp _ _ _ _ ⟨[(0, true, _), (1, true, _), (2, true, _)], _, _⟩
 refine aSR ?_
 refine al (q := true) rfl (bO rfl rfl rfl (fun b0_0 => ?_))
 refine aH (by (try simp only [nM, nN]); rfl) ?_
 refine aA rfl (aNn (aSR (aU rfl (aK (o := 0) tk189 rfl (.of (an 0 rfl)) rfl) ?_)))
 refine aU rfl (aa (off := 0) (by kernel_rfl) rfl) ?_
 refine aU rfl (ae 0 tk3 rfl rfl rfl) ?_
 refine aU rfl (aa (off := 1) (by kernel_rfl) rfl) ?_
 refine aU rfl (ae 0 tk3 rfl rfl rfl) ?_
 refine aQ [0] (false) (by kernel_rfl) true rfl rfl (fun _ => rfl) (fun hc => rfl) (fun hc => pa _ _ _ _) (fun c1 hc1 => ?_)
 refine aM rfl (aG rfl rfl (fun hc => aK (o := 0) tk189 rfl (.of (an 0 rfl)) rfl) ?_)
 refine aG rfl rfl (fun hc => aa (off := 2) (by kernel_rfl) rfl) ?_
 refine aG rfl rfl (fun hc => ae 0 tk3 (ab rfl hc) rfl rfl) ?_
 refine aG rfl rfl (fun hc => aa (off := 1) (by kernel_rfl) rfl) ?_
 refine aG rfl rfl (fun hc => ae 0 tk3 (ab rfl hc) rfl rfl) (aG rfl rfl (fun hc => aK (o := 0) tk3 rfl (.of (an 1 rfl)) rfl) ?_)
 refine aQ [0] (false) (by kernel_rfl) _ rfl rfl (fun hc => (ab rfl hc)) (fun hc => (aN (ab rfl hc) (aN (ab rfl hc) (aN (ab rfl hc) rfl)))) (fun hc => pa _ _ _ _) (fun c2 hc2 => ?_)
 refine aU rfl (bA rfl rfl (fun h => gt rfl h)) (aA rfl (aNn (aj ?_)))
 refine bc [] [] rfl Tryz.results178 rfl ?_ (.inr rfl)
 exact ⟨⟨rfl, rfl⟩, _, rfl, fun _ => trivial⟩
theorem ue (x y : dw) (p : Per) : Con Tryz.prog 180 [x.val, y.val] [p] [] (YB True) := by
 refine Con.enter Tryz.func180 rfl (by simp [Tryz.ntmps180]) ?_
 show awp _ _ _ _ ⟨[(0, true, _), (1, true, _)], _, _⟩
 refine aSR ?_
 refine al (q := true) rfl (bO rfl rfl rfl (fun b0_0 => ?_))
 refine aH (by (try simp only [nM, nN]); rfl) ?_
 refine al (q := true) rfl (bO rfl rfl rfl (fun b0_1 => ?_))
 refine aH (by (try simp only [nM, nN]); rfl) ?_
 refine aA rfl (aNn (aSR ?_))
 refine aU rfl (aa (off := 2) (by kernel_rfl) rfl) ?_
 refine aU rfl (ae 0 tk3 rfl rfl rfl) ?_
 refine aU rfl (aa (off := 1) (by kernel_rfl) rfl) ?_
 refine aU rfl (ae 0 tk3 rfl rfl rfl) (aU rfl (uQ rfl rfl) ?_)
 refine aU rfl (aa (off := 2) (by kernel_rfl) rfl) ?_
 refine aU rfl (ae 1 tk3 rfl rfl rfl) (aU rfl (eG rfl rfl) (aA rfl (aNn (aj ?_))))
 refine bc [] [] rfl Tryz.results180 rfl ?_ (.inr rfl)
 exact ⟨⟨rfl, rfl⟩, _, rfl, fun _ => trivial⟩
theorem wS (x y : bZ) (p : Per) : Con Tryz.prog 181 [x.val, y.val] [p] [] (YB True) := by
 refine Con.enter Tryz.func181 rfl (by simp [Tryz.ntmps181]) ?_
 show awp _ _ _ _ ⟨[(0, true, _), (1, true, _)], _, _⟩
 refine aSR ?_
 refine al (q := true) rfl (bO rfl rfl rfl (fun b0_0 => ?_))
 refine aH (by (try simp only [nM, nN]); rfl) ?_
 refine al (q := true) rfl (bO rfl rfl rfl (fun b0_1 => ?_))
 refine aH (by (try simp only [nM, nN]); rfl) ?_
 refine aA rfl (aNn (aSR ?_))
 refine aU rfl (aa (off := 0) (by kernel_rfl) rfl) ?_
 refine aU rfl (ae 0 tk3 rfl rfl rfl) ?_
 refine aU rfl (aa (off := 0) (by kernel_rfl) rfl) ?_
 refine aU rfl (ae 1 tk3 rfl rfl rfl) (aU rfl (bJ rfl rfl) (aM rfl ?_))
 refine aG rfl rfl (fun hc => aa (off := 0) (by kernel_rfl) rfl) ?_
 refine aG rfl rfl (fun hc => ae 0 tk3 (ab rfl hc) rfl rfl) ?_
 refine aG rfl rfl (fun hc => aa (off := 0) (by kernel_rfl) rfl) ?_
 refine aG rfl rfl (fun hc => ae 1 tk3 (ab rfl hc) rfl rfl) (aG rfl rfl (fun hc => bK (ab rfl hc) (ab rfl hc)) (aG rfl rfl (fun hc => aq (ab rfl hc)) ?_))
 refine aG rfl rfl (fun hc => aa (off := 1) (by kernel_rfl) rfl) ?_
 refine aG rfl rfl (fun hc => ae 0 tk9 (ab rfl hc) rfl rfl) ?_
 refine aG rfl rfl (fun hc => aa (off := 1) (by kernel_rfl) rfl) ?_
 refine aG rfl rfl (fun hc => ae 1 tk9 (ab rfl hc) rfl rfl) (aG rfl rfl (fun hc => vG (ab rfl hc) (ab rfl hc)) (aG rfl rfl (fun hc => bA (ab rfl hc) rfl (fun h => gt hc h)) (aU rfl (cx rfl rfl (fun h => gf rfl h)) (aA rfl (aNn (aj ?_))))))
 refine bc [] [] rfl Tryz.results181 rfl ?_ (.inr rfl)
 exact ⟨⟨rfl, rfl⟩, _, rfl, fun _ => trivial⟩
theorem w4 (b : Nat) (o : ar) (x : bZ) : Con Tryz.prog 175 [x.val, .pointer (some ⟨b, 0, none⟩)] [At b 0 o.row, o.ok, x.ok] [] (YB True) := by
 refine Con.enter Tryz.func175 rfl (by simp [Tryz.ntmps175]) ?_
 show awp _ _ _ _ ⟨[(0, true, _), (1, true, _)], _, _⟩
 refine bf (ar.f_secs (.of (an 1 rfl))) (fun hlen => ?_)
 refine aSR ?_
 refine al (q := true) rfl (bO rfl rfl rfl (fun b0_0 => ?_))
 refine aH (by (try simp only [nM, nN]); rfl) ?_
 refine aA rfl (aNs (aSR (aU rfl (aK (o := 0) tk145 rfl (.of (an 0 rfl)) rfl) ?_)))
 refine aU rfl (aa (off := 0) (by kernel_rfl) rfl) ?_
 refine aU rfl (ae 0 tk3 rfl rfl rfl) ?_
 refine fS (zs := [.int .i64 0]) (l := [(0, .const (.int .i64 1))]) el90 (by kernel_rfl) (by decide) (by decide) (by decide) rfl _ rfl (fun hc => rfl) rfl (.more rfl (.v rfl .nil) .nil) rfl rfl (fun v1_3 => ?_)
 refine aQ (caps := []) [3, 1] (false) (by kernel_rfl) true rfl rfl (fun _ => rfl) (fun hc => rfl) (fun hc => by rw [List.append_nil]; exact (jr o ⟨v1_3, 1, [1]⟩ _).pre (el (.yes (.of (an 0 rfl)) rfl) (.of (an 1 rfl)))) (fun c1 hc1 => ?_)
 refine aU rfl (cm rfl) (aM rfl ?_)
 refine aG rfl rfl (fun hc => aa (off := 1) (by kernel_rfl) rfl) ?_
 refine aG rfl rfl (fun hc => ae 0 tk9 (ab rfl hc) rfl rfl) (aG rfl rfl (fun hc => dX Tryz.underlying9 (ab rfl hc)) (aG rfl rfl (fun hc => cN (ab rfl hc) rfl) (aU rfl (cx rfl rfl (fun h => gf rfl h)) (aM rfl ?_))))
 refine aG rfl rfl (fun hc => aa (off := 3) (by kernel_rfl) rfl) ?_
 refine aG rfl rfl (fun hc => ae 0 tk3 (ab rfl hc) rfl rfl) (aG rfl rfl (fun hc => cN (ab rfl hc) rfl) (aG rfl rfl (fun hc => aq (ab rfl hc)) (aG rfl rfl (fun hc => aK (o := 0) tk145 rfl (.of (an 1 rfl)) rfl) ?_)))
 refine aG rfl rfl (fun hc => aa (off := 3) (by kernel_rfl) rfl) ?_
 refine aG rfl rfl (fun hc => ae 0 tk3 (ab rfl hc) rfl rfl) ?_
 refine aQ (caps := []) [1] (false) (by kernel_rfl) _ rfl rfl (fun _ => rfl) (fun hc => (aN (ab rfl hc) (aN (ab rfl hc) (aN (ab rfl rfl) rfl)))) (fun hc => by rw [List.append_nil]; exact lV o _ _) (fun c2 hc2 => ?_)
 refine aG rfl rfl (fun hc => cm (ab rfl hc)) (aG rfl rfl (fun hc => bA (ab rfl hc) rfl (fun h => gt hc h)) (aU rfl (cx rfl rfl (fun h => gf rfl h)) (aNn ?_)))
 refine ah _ rfl (fun h1 => ?_) (fun h1 => ?_)
 ·skip
  refine aSR (aA rfl (aNn (aj (aO ?_))))
  refine bc [] [] rfl Tryz.results175 rfl ?_ (.inr rfl)
  exact ⟨⟨rfl, rfl⟩, _, rfl, fun _ => trivial⟩
 ·skip
  have hsec : 0 ≤ x.sec ∧ x.sec < o.secs.l.length := by
    simp only [Bool.or_eq_false_iff, Bool.not_eq_false'] at h1
    exact hc1 rfl h1.1.1
  refine au (aw (aSR ?_))
  refine aU rfl (aa (off := 0) (by kernel_rfl) rfl) ?_
  refine aU rfl (aa (off := 1) (by kernel_rfl) rfl) ?_
  refine aU rfl (aK (o := 1) tk50 rfl (.of (an 1 rfl)) rfl) ?_
  refine aU rfl (aa (off := 0) (by kernel_rfl) rfl) ?_
  refine aU rfl (ae 0 tk3 rfl rfl rfl) ?_
  refine cF true rfl rfl (fun _ => av Tryz.underlying50 tk85 rfl ((ar.f_secs (.of (an 2 rfl)))) rfl (dO (i := x.sec) (by omega) (by omega)) (by omega) rfl) (fun h => absurd h (by decide)) (fun ⟨b3_5, o3_5⟩ => ?_)
  refine aU rfl (aa (off := 3) (by kernel_rfl) rfl) ?_
  refine aU rfl (aR (o := 3) tk3 rfl (an 0 rfl) rfl rfl) ?_
  refine al (q := true) rfl (bp (zs := [.int .i64 0]) (by kernel_rfl) rfl (fun b3_8 => ?_))
  refine aH (by (try simp only [nM, nN]); rfl) ?_
  refine al rfl (aW 1 tk3 rfl rfl rfl rfl ?_)
  refine aH (by (try simp only [nK, nL]); rfl) ?_
  refine aNs (bT 1 rfl rfl ?_)
  show awp _ _ _ _ ⟨_, At _ 0 _ :: _, _⟩
  refine ai ?_
  refine al (q := true) rfl (bp (zs := [.nilFunc]) (by kernel_rfl) rfl (fun b4_0 => ?_))
  refine aH (by (try simp only [nM, nN]); rfl) ?_
  refine al rfl (aW 2 tk189 rfl rfl rfl rfl ?_)
  refine aH (by (try simp only [nK, nL]); rfl) ?_
  refine aNs (bT 2 rfl rfl ?_)
  show awp _ _ _ _ ⟨_, At _ 0 _ :: _, _⟩
  refine ai ?_
  refine aU rfl (aa (off := 2) (by kernel_rfl) rfl) ?_
  refine aU rfl (ae 0 tk208 rfl rfl rfl) (aU rfl (dn (l := [.tmp 5, .tmp 4]) rfl) ?_)
  refine aQ (caps := []) [6, 5, 0] (false) (by kernel_rfl) true rfl rfl (fun _ => rfl) (fun hc => rfl) (fun hc => by rw [List.append_nil]; exact (kF x.pieces 178 [.pointer (some ⟨b4_0, 0, none⟩), .pointer (some ⟨b3_8, 0, none⟩)] (cw (At b4_0 0 [.v (.func (.func 176) #[] #[])]) (At b3_8 0 [.v (.int .i64 (elt o.secs.l x.sec).size)])) (fun _ => True) (by kernel_rfl) (fun y _ => (wb b4_0 b3_8 _ y).pre (el ff.left ff.right))).pre (el (bZ.f_pieces (.of (an 2 rfl))) (.mk2 (.of (an 0 rfl)) (.of (an 1 rfl))))) (fun c3 hc3 => ?_)
  refine aM rfl ?_
  refine aG rfl rfl (fun hc => aa (off := 2) (by kernel_rfl) rfl) ?_
  refine aG rfl rfl (fun hc => ae 0 tk208 (ab rfl hc) rfl rfl) ?_
  refine aQ (caps := []) [0] (false) (by kernel_rfl) _ rfl rfl (fun _ => rfl) (fun hc => (aN (ab rfl hc) (aN (ab rfl rfl) rfl))) (fun hc => by rw [List.append_nil]; exact (kr x.pieces 180 [] x.ok (by kernel_rfl) (fun y _ z _ => ue y z _)).pre (el (bZ.f_pieces (.of (an 0 rfl))) (.of (an 0 rfl)))) (fun c4 hc4 => ?_)
  refine aU rfl (bA rfl rfl (fun h => gt rfl h)) (aA rfl (aNn (aj ?_)))
  refine bc [] [] rfl Tryz.results175 rfl ?_ (.inr rfl)
  exact ⟨⟨rfl, rfl⟩, _, rfl, fun _ => trivial⟩
theorem mr (o : ar) : Con Tryz.prog 76 [o.val] [o.ok] [] (YB True) := by
 refine Con.enter Tryz.func76 rfl (by simp [Tryz.ntmps76]) ?_
 show awp _ _ _ _ ⟨[(0, true, _)], _, _⟩
 refine aSR ?_
 refine al (q := true) rfl (bO rfl rfl rfl (fun b0_0 => ?_))
 refine aH (by (try simp only [nM, nN]); rfl) ?_
 refine aA rfl (aNn (aSR (aU rfl (dn (l := [.tmp 1]) rfl) (aA rfl (cA ?_)))))
 refine aw (aSR (aA rfl (aNs (bT 0 rfl rfl ?_))))
 show awp _ _ _ _ ⟨_, At _ 0 _ :: _, _⟩
 refine ai ?_
 refine aU rfl (aa (off := 0) (by kernel_rfl) rfl) ?_
 refine aU rfl (aa (off := 10) (by kernel_rfl) rfl) ?_
 refine aU rfl (aK (o := 10) tk59 rfl (.of (an 0 rfl)) rfl) (aM rfl ?_)
 refine aQ (caps := []) [1, 0] (false) (by kernel_rfl) true rfl rfl (fun _ => rfl) (fun hc => rfl) (fun hc => by rw [List.append_nil]; exact (ja o.converts 175 [.pointer (some ⟨b0_0, 0, none⟩)] (cw (At b0_0 0 o.row) o.ok) (fun _ => True) (by kernel_rfl) (fun x hx => (w4 b0_0 o x).pre (ra ff.left ff.right (.allm (ar.f_convertsA ff.right) hx)))).pre (el (ar.f_converts (.of (an 1 rfl))) (.mk2 (.of (an 0 rfl)) (.of (an 1 rfl))))) (fun c1 hc1 => ?_)
 refine aM rfl ?_
 refine aG rfl rfl (fun hc => aa (off := 0) (by kernel_rfl) rfl) ?_
 refine aG rfl rfl (fun hc => aa (off := 10) (by kernel_rfl) (ab rfl hc)) ?_
 refine aG rfl rfl (fun hc => aK (o := 10) tk59 (ab rfl hc) (.of (an 0 rfl)) rfl) (aG rfl rfl (fun hc => aq rfl) ?_)
 refine aQ (caps := []) [0] (false) (by kernel_rfl) _ rfl rfl (fun _ => rfl) (fun hc => (aN (ab rfl hc) (aN (ab rfl hc) rfl))) (fun hc => by rw [List.append_nil]; exact (je o.converts 181 [] o.ok (by kernel_rfl) (fun x _ y _ => wS x y _)).pre (el (ar.f_converts (.of (an 0 rfl))) (.of (an 0 rfl)))) (fun c2 hc2 => ?_)
 refine aU rfl (bA rfl rfl (fun h => gt rfl h)) (aA rfl (aNn (aj ?_)))
 refine bc [] [] rfl Tryz.results76 rfl ?_ (.inr rfl)
 exact ⟨⟨rfl, rfl⟩, _, rfl, fun _ => trivial⟩
end Go.Proofs.YtgmiihmahaahiaaGreatDoor

namespace Go.Sy
open Go.RowKit Go.Lp
section
variable {P : Program} {d : Option Tmp} {ty : TypeId} {pos : String} {af : Array Edge} {gd : Option (Nat × Bool)}
theorem rk {f : FuncId} (hf : bI P f = true) {ts : Array TypeId} {g : Operand} {fst caps : Array Value} {ρ : Operand → Value} (hg : ρ g = .func (.func f) fst caps) (w : World) :
   (execOp ρ ⟨d, .call ⟨.value g, #[], ts⟩, ty, pos, af, gd⟩).run P w = .ok (.enter f (fst ++ caps)) w := by
 unfold execOp
 dsimp only
 show ((resolve ρ ⟨.value g, #[], ts⟩ ty).bind fun x => invoke x.target x.args).run P w = _
 have : resolve ρ ⟨.value g, #[], ts⟩ ty = Sem.pure { target := .fn (.func f) caps, args := fst } := by
   unfold resolve
   dsimp only
   rw [hg]
   show Deferred.ofValue _ _ = _
   unfold Deferred.ofValue
   dsimp only
   rw [Array.map_empty, Array.append_empty]
   rfl
 rw [this]
 show (callFunc f (fst ++ caps)).run P w = _
 exact gP hf _ w
variable {n : Fr} {s : Sta}
theorem gw {fn : Fn} {l : List Operand} {vs : List Value} (hx : evs s.env l = some vs) :
   Quiet P n ⟨d, .makeFunc fn l.toArray #[], ty, pos, af, gd⟩ s (.func fn vs.toArray #[]) := fun w S fp a hst he hn => by
 have : (execOp a.eval ⟨d, .makeFunc fn l.toArray #[], ty, pos, af, gd⟩).run P w = .ok (.value (.func fn (l.toArray.map a.eval) #[])) w := by
   show Result.ok (Next.value (.func fn (l.toArray.map a.eval) ((#[] : Array Operand).map a.eval))) w = _
   rw [Array.map_empty]
 rw [this, List.map_toArray, fy he l vs hx]
 exact ck _ _
variable {ops : Array Oper} {Q : Exit → Sta → Prop} {env : Env} {ps : List Per} {hp : List Res} {rest : List Oper}
theorem wM {t : Nat} {f : FuncId} {g : Operand} {fst : List Value} {ts : Array TypeId} {q : Bool} {R : Value → List Per → List Res → Prop} {K : Sta → Prop} (lp lh : List Nat) (hf : bI P f = true) (hgv : ev env g = some (true, .func (.func f) fst.toArray #[])) (ht : fits n (some t) = true) (ok : okH hp lh = true)
   (hq : (!q || lh.isEmpty) = true) (hc : Con P f fst (fD ps lp) (aX hp lh) R) (hK : ∀ v ps' hp', R v ps' hp' → K ⟨(t, true, v) :: env, ps' ++ ps, aV lh hp' 0 hp⟩) :
   Eff P n ⟨some t, .call ⟨.value g, #[], ts⟩, ty, pos, af, gd⟩ ⟨env, ps, hp⟩ q K := fun w S fp a hst he hn => by
 rw [rk hf (he.val hgv rfl)]
 obtain ⟨k1, k2⟩ := hst.aX lp lh ok
 have hcc := hc w S _ k1
 rw [Array.append_empty]
 refine hcc.mono fun e w' ⟨v, ps', hp', S', fp', he', hR, hst', hE, hg⟩ => ⟨v, he', ?_⟩
 obtain ⟨m1, m2⟩ := hst.back lp lh ok hst' hE hg
 refine ⟨_, S', _, hK v ps' hp' hR, m1, ?_, hE.wider k2, m2, fun hq' => ?_⟩
 · exact he.put (g := true) (by rw [hn]; simpa [fits] using ht) v
 · rw [hq'] at hq
   have : lh = [] := by simpa using hq
   subst this
   exact hE.toX (fun b hb => rE _ b hb)
theorem vC {β : Type} {v : β → Value} {Φ : β → Prop} {t : Nat} {f : FuncId} {g : Operand} {fst : List Value} {ts : Array TypeId} (lp : List Nat) (hf : bI P f = true) (hc : guardOf ops env ⟨some t, .call ⟨.value g, #[], ts⟩, ty, pos, af, gd⟩ = some true) (ht : fits n.size (some t) = true)
   (hgv : ev env g = some (true, .func (.func f) fst.toArray #[])) (hcon : Con P f fst (fD ps lp) [] (YN v Φ))
   (h : ∀ b, Φ b → aL P n ops Q rest ⟨(t, true, v b) :: env, ps, hp⟩) : aL P n ops Q (⟨some t, .call ⟨.value g, #[], ts⟩, ty, pos, af, gd⟩ :: rest) ⟨env, ps, hp⟩ := by
 refine al (q := true) hc (wM lp [] hf hgv ht rfl rfl hcon ?_)
 rintro _ _ _ ⟨⟨rfl, rfl⟩, b, rfl, hb⟩
 refine aH ?_ (h b hb)
 apply List.ext_getElem?; intro i; rw [iw]
 by_cases hi : i < hp.length
 · rw [if_pos hi]; rfl
 · rw [if_neg hi, List.getElem?_eq_none (by simp), List.getElem?_eq_none (by omega)]
end
end Go.Sy

namespace Go.Proofs.YtgmiihmahaahiaaGreatDoor
open Go.RowKit Go.Lp Go.Sy
open Go.Proofs.Tryz
attribute [local irreducible] aL aB awp aC fwp
structure x7 (o : ar) : Prop where
 secs : ∀ s ∈ o.secs.l, s.bytes.size ≤ 1048576
 syms : ∀ s ∈ o.syms.l, (s.sec = -1 ∧ s.bind ≠ 0) ∨ (0 ≤ s.sec ∧ s.sec < o.secs.l.length)
 groups : ∀ g ∈ o.groups.l, g.secs.l.length ≤ o.secs.l.length ∧ ∀ z ∈ g.secs.l, 0 ≤ z ∧ z < o.secs.l.length
def RtK (o : ar) (k : Nat) : Prop := match k with
 | 0 => ∀ s ∈ o.secs.l, s.bytes.size ≤ 1048576
 | 1 => ∀ s ∈ o.syms.l, (s.sec = -1 ∧ s.bind ≠ 0) ∨ (0 ≤ s.sec ∧ s.sec < o.secs.l.length)
 | 3 => ∀ g ∈ o.groups.l, g.secs.l.length ≤ o.secs.l.length ∧ ∀ z ∈ g.secs.l, 0 ≤ z ∧ z < o.secs.l.length
 | _ => True
abbrev xM : List FuncId := [67, 68, 69, 70, 71, 72, 73, 74, 75, 76]
structure rH (o : ar) : Prop where
 secs : o.secs.l.length ≤ 1000
 groups : o.groups.l.length ≤ 1000
 inlines : o.inlines.l.length ≤ 1000
theorem yo (o : ar) (hf : rH o) : ∀ k : Nat, k < 10 → ∃ f, xM[k]? = some f ∧ bI Tryz.prog f = true ∧ Con Tryz.prog f [o.val] [dS, o.ok] [] (YN Value.bool fun b => b = true → RtK o k) := by
 have up : ∀ {f : FuncId} {Φ : Prop}, Con Tryz.prog f [o.val] [o.ok] [] (YB Φ) → Con Tryz.prog f [o.val] [dS, o.ok] [] (YN Value.bool fun b => b = true → Φ) := fun h => h.pre fun p hp => (List.mem_singleton.1 hp) ▸ .of (an 1 rfl)
 intro k hk
 rcases (by omega : k = 0 ∨ k = 1 ∨ k = 2 ∨ k = 3 ∨ k = 4 ∨ k = 5 ∨ k = 6 ∨ k = 7 ∨ k = 8 ∨ k = 9) with rfl | rfl | rfl | rfl | rfl | rfl | rfl | rfl | rfl | rfl
 · exact ⟨_, rfl, by kernel_rfl, up (tM o)⟩
 · exact ⟨_, rfl, by kernel_rfl, up (tD o)⟩
 · exact ⟨_, rfl, by kernel_rfl, tU o⟩
 · exact ⟨_, rfl, by kernel_rfl, up (pE o hf.groups hf.secs)⟩
 · exact ⟨_, rfl, by kernel_rfl, up (ry o)⟩
 · exact ⟨_, rfl, by kernel_rfl, up (rq o)⟩
 · exact ⟨_, rfl, by kernel_rfl, up (nS o hf.inlines)⟩
 · exact ⟨_, rfl, by kernel_rfl, up (tY o)⟩
 · exact ⟨_, rfl, by kernel_rfl, up (pC o)⟩
 · exact ⟨_, rfl, by kernel_rfl, up (mr o)⟩
theorem tk25 : tyk Tryz.prog 25 = some (false, 1) := by kernel_rfl
theorem rv (o : ar) (hf : rH o) : Con Tryz.prog 30 [o.val] [dS, o.ok] [] (YB (x7 o)) := by
 refine Con.enter Tryz.func30 rfl (by simp [Tryz.ntmps30]) ?_
 show awp _ _ _ _ ⟨[(0, true, _)], _, _⟩
 refine eE (ar.f_name (.of (an 1 rfl))) (fun hnl => ?_)
 refine aSR ?_
 refine al (q := true) rfl (bO rfl rfl rfl (fun b0_0 => ?_))
 refine aH (by (try simp only [nM, nN]); rfl) ?_
 refine aA rfl (aNn (aSR (aU rfl (ae 0 tk61 rfl rfl rfl) ?_)))
 refine aU rfl (dF (l := [(0, .tmp 6)]) (zs := [.string .empty, .slice none 0 0, .slice none 0 0, .slice none 0 0, .slice none 0 0, .slice none 0 0, .slice none 0 0, .slice none 0 0, .slice none 0 0, .slice none 0 0, .slice none 0 0]) (pl := [(0, 11)]) (by kernel_rfl) (by kernel_rfl) (by kernel_rfl) rfl rfl rfl) ?_
 refine al (q := true) rfl (bp (zs := [.string .empty, .slice none 0 0, .slice none 0 0, .slice none 0 0, .slice none 0 0, .slice none 0 0, .slice none 0 0, .slice none 0 0, .slice none 0 0, .slice none 0 0, .slice none 0 0]) (by kernel_rfl) rfl (fun b1_2 => ?_))
 refine aH (by (try simp only [nM, nN]); rfl) ?_
 refine al rfl (aW 1 tk145 rfl rfl rfl rfl ?_)
 refine aH (by (try simp only [nK, nL]); rfl) ?_
 refine aNs (aSR (aU rfl (ae 1 tk145 rfl rfl rfl) (aU rfl (gw (l := [.tmp 8]) rfl) (aU rfl (ae 1 tk145 rfl rfl rfl) (aU rfl (gw (l := [.tmp 10]) rfl) (aU rfl (ae 1 tk145 rfl rfl rfl) (aU rfl (gw (l := [.tmp 12]) rfl) (aU rfl (ae 1 tk145 rfl rfl rfl) (aU rfl (gw (l := [.tmp 14]) rfl) (aU rfl (ae 1 tk145 rfl rfl rfl) (aU rfl (gw (l := [.tmp 16]) rfl) (aU rfl (ae 1 tk145 rfl rfl rfl) ?_))))))))))))
 refine aU rfl (gw (l := [.tmp 18]) rfl) (aU rfl (ae 1 tk145 rfl rfl rfl) (aU rfl (gw (l := [.tmp 20]) rfl) (aU rfl (ae 1 tk145 rfl rfl rfl) (aU rfl (gw (l := [.tmp 22]) rfl) (aU rfl (ae 1 tk145 rfl rfl rfl) (aU rfl (gw (l := [.tmp 24]) rfl) (aU rfl (ae 1 tk145 rfl rfl rfl) (aU rfl (gw (l := [.tmp 26]) rfl) ?_))))))))
 refine al (q := true) rfl (cz (zs := [.nilFunc]) (l := [(0, .tmp 9), (1, .tmp 11), (2, .tmp 13), (3, .tmp 15), (4, .tmp 17), (5, .tmp 19), (6, .tmp 21), (7, .tmp 23), (8, .tmp 25), (9, .tmp 27)]) el146 (by kernel_rfl) (by decide) (by decide) (by decide) rfl rfl rfl (.more rfl (.v rfl .nil) (.more rfl (.v rfl .nil) (.more rfl (.v rfl .nil) (.more rfl (.v rfl .nil) (.more rfl (.v rfl .nil) (.more rfl (.v rfl .nil) (.more rfl (.v rfl .nil) (.more rfl (.v rfl .nil) (.more rfl (.v rfl .nil) (.more rfl (.v rfl .nil) .nil)))))))))) rfl rfl (fun v2_20 => ?_))
 refine aH (by (try simp only [nM, nN]); rfl) ?_
 refine aU rfl (fq 2 Tryz.underlying146 rfl rfl) (aM rfl (aNn (ax ?_)))
 refine aZ [1, 28, 29, 30] [1, 0] [0, 2] (fun (k : Nat) s => (k ≤ 10 ∧ ∀ j, j < k → RtK o j) ∧ s = ⟨[(1, true, .pointer (some ⟨b0_0, 0, none⟩)), (28, true, .slice v2_20 10 10), (29, true, .int .i64 (10 : Nat)), (30, true, .int .i64 k)], [dS, o.ok], [Box b0_0 61 o.vs, bH (.slice v2_20 10 10) 25 1 (xM.map fun f => [.v (.func (.func f) #[o.val] #[])])]⟩) (fun k => 10 - k) rfl (⟨0, ⟨Nat.zero_le _, fun j h => by omega⟩, rfl⟩) ?_
 rintro k s ⟨⟨hk, hR⟩, rfl⟩
 refine aSR (aU rfl (bJ rfl rfl) (aNs ?_))
 refine ah _ rfl (fun h1 => ?_) (fun h1 => ?_)
 ·skip
  have hk' : k < 10 := by simp at h1; omega
  obtain ⟨f, hfk, hfo, hfc⟩ := yo o hf k hk'
  have hrow : (xM.map fun f => [D.v (.func (.func f) #[o.val] #[])])[k]? = some [.v (.func (.func f) #[o.val] #[])] := by rw [List.getElem?_map, hfk]; rfl
  refine au (aw (az (ax (aSR (aU rfl (dU 1 k el146 rfl rfl rfl rfl hk') (aU rfl (ej 1 k 0 tk25 rfl rfl hrow rfl rfl) (aA rfl (aNn (aSR (aM rfl ?_))))))))))
  refine vC (fst := [o.val]) [1, 0] hfo rfl rfl rfl hfc (fun c1 hc1 => ?_)
  refine aU rfl (cm rfl) (aNn ?_)
  refine ah _ rfl (fun h2 => ?_) (fun h2 => ?_)
  ·skip
   refine aSR (aA rfl (aNn (aj (bC (aO (aO (bC (aO ?_))))))))
   refine bc [] [] rfl Tryz.results30 rfl ?_ (.inr rfl)
   exact ⟨⟨rfl, rfl⟩, _, rfl, fun h => by cases h⟩
  ·skip
   refine au (bL (aw (ai ?_)))
   refine aU rfl (bB rfl rfl (by omega)) ?_
   refine aM rfl (aNn ?_)
   refine ⟨[1, 28, 29, 30], [1, 0], [0, 1], rfl, ?_⟩
   refine ⟨k + 1, ⟨⟨by omega, fun j hj => ?_⟩, rfl⟩, by omega⟩
   by_cases hjk : j = k
   · subst hjk; exact hc1 (by simpa using h2)
   · exact hR j (by omega)
 ·skip
  refine bg (bj (bj (bz (aw (aSR ?_)))))
  refine aU rfl (aa (off := 0) (by kernel_rfl) rfl) ?_
  refine aU rfl (ae 0 tk9 rfl rfl rfl) ?_
  refine aQ (caps := []) [] (false) (by kernel_rfl) true rfl rfl (fun _ => rfl) (fun hc => rfl) (fun hc => by rw [List.append_nil]; exact eR _ hnl) (fun c2 hc2 => ?_)
  refine aA rfl (aNn (aj ?_))
  refine bc [] [] rfl Tryz.results30 rfl ?_ (.inr rfl)
  have hk10 : k = 10 := by simp at h1; omega
  subst hk10
  exact ⟨⟨rfl, rfl⟩, _, rfl, fun _ => ⟨hR 0 (by omega), hR 1 (by omega), hR 3 (by omega)⟩⟩
end Go.Proofs.YtgmiihmahaahiaaGreatDoor

namespace Go.Sy
open Go.RowKit Go.Lp
theorem xO {P : Program} {n : Fr} {s : Sta} {d : Option Tmp} {ty : TypeId} {pos : String} {af : Array Edge} {gd : Option (Nat × Bool)} {x : Operand} {T t' E : TypeId} {ad : Option Addr} {k c : Nat} (hT : P.underlying T = some (.slice E)) (hx : ev s.env x = some (true, .slice ad k c)) : Quiet P n ⟨d, .binOp .neq T x (.const (.slice none 0 0)) t', ty, pos, af, gd⟩ s (.bool (!ad.isNone)) :=
 .run2 (vy := .slice none 0 0) hx rfl fun ρ w h1 h2 => by
   unfold execOp; dsimp only; rw [h1, h2]
   simp only [eqGuard_at_slice, binOp, Sem.run_bind, Sem.run_pure, run_equal_slice_nil w T E ad k c hT, Result.andThen_ok]
end Go.Sy
namespace Go.Proofs.YtgmiihmahaahiaaGreatDoor
open Go.RowKit Go.Lp Go.Sy
open Go.Proofs.Tryz
attribute [local irreducible] aL aB awp aC fwp
theorem wG (o : ar) (sec : Int) : Con Tryz.prog 187 [o.val, .int .i64 sec] [o.ok] [] (YB (0 ≤ sec ∧ sec < o.secs.l.length)) := by
 refine Con.enter Tryz.func187 rfl (by simp [Tryz.ntmps187]) ?_
 show awp _ _ _ _ ⟨[(0, true, _), (1, true, _)], _, _⟩
 refine bf (ar.f_secs (.of (an 0 rfl))) (fun hlen => ?_)
 refine aSR ?_
 refine al (q := true) rfl (bO rfl rfl rfl (fun b0_0 => ?_))
 refine aH (by (try simp only [nM, nN]); rfl) ?_
 refine aA rfl (aNn (aSR (aM rfl ?_)))
 refine aU rfl (aa (off := 1) (by kernel_rfl) rfl) ?_
 refine aU rfl (ae 0 tk50 rfl rfl rfl) (aU rfl (bq Tryz.underlying50 rfl) ?_)
 refine aU rfl (bP (by kernel_rfl) rfl (fun w S fp hst => (cD _ _).quiet0 hst)) ?_
 refine aM rfl ?_
 refine aG rfl rfl (fun hc => aa (off := 1) (by kernel_rfl) rfl) ?_
 refine aG rfl rfl (fun hc => ae 0 tk50 (ab rfl hc) rfl rfl) (aG rfl rfl (fun hc => aq rfl) ?_)
 refine cF _ rfl rfl (fun hc => av Tryz.underlying50 tk85 (ab rfl hc) ((ar.f_secs (.of (an 0 rfl)))) (ab rfl hc) (dO (i := sec) (by simp at hc; omega) (by simp at hc; omega)) (by simp at hc; omega) rfl) (fun _ => ⟨(0, 0)⟩) (fun ⟨b1_9, o1_9⟩ => ?_)
 refine aG rfl rfl (fun hc => aa (off := 1) (by kernel_rfl) (ab rfl hc)) ?_
 refine aG rfl rfl (fun hc => aR (o := 1) tk3 (ab rfl hc) (an 0 rfl) hc rfl) (aG rfl rfl (fun hc => cQ (ab rfl hc) rfl) (aU rfl (bA rfl rfl (fun h => gt rfl h)) (aM rfl ?_)))
 refine aG rfl rfl (fun hc => aa (off := 1) (by kernel_rfl) rfl) ?_
 refine aG rfl rfl (fun hc => ae 0 tk50 (ab rfl hc) rfl rfl) (aG rfl rfl (fun hc => aq rfl) ?_)
 refine cF _ rfl rfl (fun hc => av Tryz.underlying50 tk85 (ab rfl hc) ((ar.f_secs (.of (an 1 rfl)))) (ab rfl hc) (dO (i := sec) (by simp at hc; omega) (by simp at hc; omega)) (by simp at hc; omega) rfl) (fun _ => ⟨(0, 0)⟩) (fun ⟨b1_18, o1_18⟩ => ?_)
 refine aG rfl rfl (fun hc => aa (off := 2) (by kernel_rfl) (ab rfl hc)) ?_
 refine aG rfl rfl (fun hc => aR (o := 2) tk3 (ab rfl hc) (an 0 rfl) hc rfl) (aG rfl rfl (fun hc => cQ (ab rfl hc) rfl) (aU rfl (bA rfl rfl (fun h => gt rfl h)) (aM rfl ?_)))
 refine aG rfl rfl (fun hc => aa (off := 1) (by kernel_rfl) rfl) ?_
 refine aG rfl rfl (fun hc => ae 0 tk50 (ab rfl hc) rfl rfl) (aG rfl rfl (fun hc => aq rfl) ?_)
 refine cF _ rfl rfl (fun hc => av Tryz.underlying50 tk85 (ab rfl hc) ((ar.f_secs (.of (an 2 rfl)))) (ab rfl hc) (dO (i := sec) (by simp at hc; omega) (by simp at hc; omega)) (by simp at hc; omega) rfl) (fun _ => ⟨(0, 0)⟩) (fun ⟨b1_27, o1_27⟩ => ?_)
 refine aG rfl rfl (fun hc => aa (off := 3) (by kernel_rfl) (ab rfl hc)) ?_
 refine aG rfl rfl (fun hc => aR (o := 3) tk3 (ab rfl hc) (an 0 rfl) hc rfl) (aG rfl rfl (fun hc => cQ (ab rfl hc) rfl) (aU rfl (bA rfl rfl (fun h => gt rfl h)) (aA rfl (aNn (aj ?_)))))
 refine bc [] [] rfl Tryz.results187 rfl ?_ (.inr rfl)
 refine ⟨⟨rfl, rfl⟩, _, rfl, fun hb => ?_⟩
 simp at hb; omega
theorem uX (k : Int) : Con Tryz.prog 141 [.int .i64 k] [] [] fun r ps hp => ps = [] ∧ hp = [] ∧ ∃ (ad : Option Addr) (m c : Nat), r = .slice ad m c ∧ (ad ≠ none → gy k = 8) := by
 refine Con.enter Tryz.func141 rfl (by simp [Tryz.ntmps141]) ?_
 show awp _ _ _ _ ⟨[(0, true, _)], _, _⟩
 refine aSR (aA rfl (aNs (aSR (aM rfl (aNn (ax (aSR (aU rfl (bK rfl rfl) (aA rfl (aNn ?_))))))))))
 refine ah _ rfl (fun h1 => ?_) (fun h1 => ?_)
 ·skip
  refine aSR ?_
  refine al (q := true) rfl (cz (zs := [.int .i64 0]) (l := [(0, .const (.int .i64 14)), (1, .const (.int .i64 19)), (2, .const (.int .i64 20)), (3, .const (.int .i64 21))]) el90 (by kernel_rfl) (by decide) (by decide) (by decide) rfl rfl rfl (.more rfl (.v rfl .nil) (.more rfl (.v rfl .nil) (.more rfl (.v rfl .nil) (.more rfl (.v rfl .nil) .nil)))) rfl rfl (fun v3_0 => ?_))
  refine aH (by (try simp only [nM, nN]); rfl) ?_
  refine aA rfl (aNn (aj (bC (aO ?_))))
  refine bc [] [] rfl Tryz.results141 rfl ?_ (.inr rfl)
  exact ⟨rfl, rfl, v3_0, _, _, rfl, fun _ => by rw [show k = 5 by simpa using h1]; rfl⟩
 ·skip
  refine aSR (aU rfl (bK rfl rfl) (aA rfl (aNn ?_)))
  refine ah _ rfl (fun h2 => ?_) (fun h2 => ?_)
  ·skip
   refine aSR ?_
   refine al (q := true) rfl (cz (zs := [.int .i64 0]) (l := [(0, .const (.int .i64 22))]) el90 (by kernel_rfl) (by decide) (by decide) (by decide) rfl rfl rfl (.more rfl (.v rfl .nil) .nil) rfl rfl (fun v5_0 => ?_))
   refine aH (by (try simp only [nM, nN]); rfl) ?_
   refine aA rfl (aNn (aj (bC (aO ?_))))
   refine bc [] [] rfl Tryz.results141 rfl ?_ (.inr rfl)
   exact ⟨rfl, rfl, v5_0, _, _, rfl, fun _ => by rw [show k = 6 by simpa using h2]; rfl⟩
  ·skip
   refine aSR (aU rfl (bK rfl rfl) (aA rfl (aNn ?_)))
   refine ah _ rfl (fun h3 => ?_) (fun h3 => ?_)
   ·skip
    refine aSR ?_
    refine al (q := true) rfl (cz (zs := [.int .i64 0]) (l := [(0, .const (.int .i64 24)), (1, .const (.int .i64 25))]) el90 (by kernel_rfl) (by decide) (by decide) (by decide) rfl rfl rfl (.more rfl (.v rfl .nil) (.more rfl (.v rfl .nil) .nil)) rfl rfl (fun v7_0 => ?_))
    refine aH (by (try simp only [nM, nN]); rfl) ?_
    refine aA rfl (aNn (aj (bC (aO ?_))))
    refine bc [] [] rfl Tryz.results141 rfl ?_ (.inr rfl)
    exact ⟨rfl, rfl, v7_0, _, _, rfl, fun _ => by rw [show k = 7 by simpa using h3]; rfl⟩
   ·skip
    refine aSR (aU rfl (bK rfl rfl) (aA rfl (aNn ?_)))
    refine ah _ rfl (fun h4 => ?_) (fun h4 => ?_)
    ·skip
     refine aSR ?_
     refine al (q := true) rfl (cz (zs := [.int .i64 0]) (l := [(0, .const (.int .i64 3))]) el90 (by kernel_rfl) (by decide) (by decide) (by decide) rfl rfl rfl (.more rfl (.v rfl .nil) .nil) rfl rfl (fun v9_0 => ?_))
     refine aH (by (try simp only [nM, nN]); rfl) ?_
     refine aA rfl (aNn (aj (bC (aO ?_))))
     refine bc [] [] rfl Tryz.results141 rfl ?_ (.inr rfl)
     exact ⟨rfl, rfl, v9_0, _, _, rfl, fun _ => by rw [show k = 8 by simpa using h4]; rfl⟩
    ·skip
     refine aSR (aU rfl (bK rfl rfl) (aA rfl (aNn ?_)))
     refine ah _ rfl (fun h5 => ?_) (fun h5 => ?_)
     ·skip
      refine aSR ?_
      refine al (q := true) rfl (cz (zs := [.int .i64 0]) (l := [(0, .const (.int .i64 4))]) el90 (by kernel_rfl) (by decide) (by decide) (by decide) rfl rfl rfl (.more rfl (.v rfl .nil) .nil) rfl rfl (fun v11_0 => ?_))
      refine aH (by (try simp only [nM, nN]); rfl) ?_
      refine aA rfl (aNn (aj (bC (aO ?_))))
      refine bc [] [] rfl Tryz.results141 rfl ?_ (.inr rfl)
      exact ⟨rfl, rfl, v11_0, _, _, rfl, fun _ => by rw [show k = 9 by simpa using h5]; rfl⟩
     ·skip
      refine aSR (aU rfl (bK rfl rfl) (aA rfl (aNn ?_)))
      refine ah _ rfl (fun h6 => ?_) (fun h6 => ?_)
      ·skip
       refine aSR ?_
       refine al (q := true) rfl (cz (zs := [.int .i64 0]) (l := [(0, .const (.int .i64 13)), (1, .const (.int .i64 3))]) el90 (by kernel_rfl) (by decide) (by decide) (by decide) rfl rfl rfl (.more rfl (.v rfl .nil) (.more rfl (.v rfl .nil) .nil)) rfl rfl (fun v13_0 => ?_))
       refine aH (by (try simp only [nM, nN]); rfl) ?_
       refine aA rfl (aNn (aj (bC (aO ?_))))
       refine bc [] [] rfl Tryz.results141 rfl ?_ (.inr rfl)
       exact ⟨rfl, rfl, v13_0, _, _, rfl, fun _ => by rw [show k = 10 by simpa using h6]; rfl⟩
      ·skip
       refine au (bL (aw (aSR (aA rfl (aNn (aj ?_))))))
       refine bc [] [] rfl Tryz.results141 rfl ?_ (.inr rfl)
       exact ⟨rfl, rfl, none, 0, 0, rfl, fun h => absurd rfl h⟩
theorem qR (k : Int) : 2 ≤ gy k ∧ gy k ≤ 8 := by unfold gy; split <;> (try split) <;> decide
theorem v8 (o : ar) (hb : ∀ s ∈ o.secs.l, s.bytes.size ≤ 1048576) (sec : Int) : Con Tryz.prog 82 [o.val, .int .i64 sec] [dh, di, o.ok] [] fun r ps hp => ps = [] ∧ hp = [] ∧ ∃ t : ByteArray, r = .string t := by
 refine Con.enter Tryz.func82 rfl (by simp [Tryz.ntmps82]) ?_
 show awp _ _ _ _ ⟨[(0, true, _), (1, true, _)], _, _⟩
 refine bf (ar.f_secs (.of (an 2 rfl))) (fun hlen => ?_)
 refine bf (ar.f_rels (.of (an 2 rfl))) (fun hlen2 => ?_)
 refine aSR ?_
 refine al (q := true) rfl (bO rfl rfl rfl (fun b0_0 => ?_))
 refine aH (by (try simp only [nM, nN]); rfl) ?_
 refine aA rfl (aNs (aSR (aU rfl (ae 0 tk61 rfl rfl rfl) (aM rfl ?_))))
 refine aQ (caps := []) [0] (false) (by kernel_rfl) true rfl rfl (fun _ => rfl) (fun hc => rfl) (fun hc => by rw [List.append_nil]; exact wG o _) (fun c1 hc1 => ?_)
 refine aU rfl (cm rfl) (aNn ?_)
 refine ah _ rfl (fun h1 => ?_) (fun h1 => ?_)
 ·skip
  refine aSR (aA rfl (aNn (aj (aO ?_))))
  refine bc [] [] rfl Tryz.results82 rfl ?_ (.inr rfl)
  exact ⟨rfl, rfl, _, rfl⟩
 ·skip
  have hsec : 0 ≤ sec ∧ sec < o.secs.l.length := hc1 rfl (by simpa using h1)
  have hsm := lX (l := o.secs.l) (i := sec) hsec.2 hsec.1
  have hbs := hb _ (List.mem_of_getElem? hsm)
  generalize hss : elt o.secs.l sec = s at hsm hbs
  refine au (aw (aSR ?_))
  refine aU rfl (aa (off := 1) (by kernel_rfl) rfl) ?_
  refine aU rfl (ae 0 tk50 rfl rfl rfl) (aM rfl ?_)
  refine cF true rfl rfl (fun _ => av Tryz.underlying50 tk85 rfl ((ar.f_secs (.of (an 2 rfl)))) rfl (row := s.row) (hss ▸ dO (i := sec) hsec.2 hsec.1) (by omega) rfl) (fun h => absurd h (by decide)) (fun ⟨b3_3, o3_3⟩ => ?_)
  refine aU rfl (aR (o := 0) tk85 rfl (an 0 rfl) rfl rfl) ?_
  refine al (q := true) rfl (bp (zs := [.string .empty, .int .i64 0, .int .i64 0, .int .i64 0, .string .empty, .bool false]) (by kernel_rfl) rfl (fun b3_5 => ?_))
  refine aH (by (try simp only [nM, nN]); rfl) ?_
  refine al rfl (aW 1 tk85 rfl rfl rfl rfl ?_)
  refine aH (by (try simp only [nK, nL]); rfl) ?_
  refine aNn (aSR ?_)
  refine aU rfl (aa (off := 4) (by kernel_rfl) rfl) ?_
  refine aU rfl (ae 1 tk9 rfl rfl rfl) ?_
  refine al (q := true) rfl (qe Tryz.underlying9 Tryz.underlying280 Tryz.underlying5 rfl rfl (fun gb cb hcb => ?_))
  refine aH (by (try simp only [nM, nN]); rfl) ?_
  refine aA rfl (aNs (aSR ?_))
  refine aU rfl (aa (off := 3) (by kernel_rfl) rfl) ?_
  refine aU rfl (ae 0 tk52 rfl rfl rfl) (aU rfl (bq Tryz.underlying52 rfl) (aM rfl (aNn (ax (aZ [1, 2, 5, 6, 24, 25, 26] [2, 1, 0] [0, 1, 2] (fun (k : Nat) st => k ≤ o.rels.l.length ∧ st = ⟨[(1, true, .int .i64 sec), (2, true, .pointer (some ⟨b0_0, 0, none⟩)), (5, true, .pointer (some ⟨b3_5, 0, none⟩)), (6, true, .slice (some ⟨gb, 0, none⟩) s.bytes.size cb), (24, true, o.rels.val), (25, true, .int .i64 o.rels.l.length), (26, true, .int .i64 k)], [dh, di, o.ok], [Box b0_0 61 o.vs, Box b3_5 85 s.vs, ByB gb cb]⟩) (fun k => o.rels.l.length - k) rfl (⟨0, Nat.zero_le _, rfl⟩) ?_)))))
  rintro k st ⟨hk, rfl⟩
  refine aSR (aU rfl (bJ rfl rfl) (aNs ?_))
  refine ah _ rfl (fun h2 => ?_) (fun h2 => ?_)
  ·skip
   have hk' : k < o.rels.l.length := by simpa using h2
   obtain ⟨r, hr⟩ : ∃ r, o.rels.l[k]? = some r := ⟨_, List.getElem?_eq_getElem hk'⟩
   have hw := qR r.kind
   refine au (aw (az (ax (aSR ?_))))
   refine cF true rfl rfl (fun _ => av Tryz.underlying52 tk182 rfl ((ar.f_rels (.of (an 2 rfl)))) rfl (aS hr) rfl rfl) (fun h => absurd h (by decide)) (fun ⟨b7_0, o7_0⟩ => ?_)
   refine aU rfl (aR (o := 0) tk182 rfl (an 0 rfl) rfl rfl) ?_
   refine al (q := true) rfl (bp (zs := [.int .i64 0, .int .i64 0, .int .i64 0, .int .i64 0, .int .i64 0]) (by kernel_rfl) rfl (fun b7_2 => ?_))
   refine aH (by (try simp only [nM, nN]); rfl) ?_
   refine al rfl (aW 3 tk182 rfl rfl rfl rfl ?_)
   refine aH (by (try simp only [nK, nL]); rfl) ?_
   refine aNn (aSR ?_)
   refine aU rfl (aa (off := 2) (by kernel_rfl) rfl) ?_
   refine aU rfl (ae 3 tk3 rfl rfl rfl) ?_
   refine aU rfl (bP (by kernel_rfl) rfl (fun w S fp hst => (iP _).quiet0 hst)) ?_
   refine aA rfl (aNs (aSR ?_))
   refine aU rfl (aa (off := 0) (by kernel_rfl) rfl) ?_
   refine aU rfl (ae 3 tk3 rfl rfl rfl) (aM rfl (aU rfl (cN rfl rfl) (aM rfl ?_)))
   refine aG rfl rfl (fun hc => aa (off := 2) (by kernel_rfl) rfl) ?_
   refine aG rfl rfl (fun hc => ae 3 tk3 (ab rfl hc) rfl rfl) ?_
   refine aG rfl rfl (fun hc => bP (by kernel_rfl) (aN (ab rfl hc) (aN (ab rfl rfl) rfl)) (fun w S fp hst => (cD _ _).quiet0 hst)) ?_
   refine aG rfl rfl (fun hc => cm (ab rfl hc)) (aU rfl (cx rfl rfl (fun h => gf rfl h)) (aM rfl ?_))
   refine aG rfl rfl (fun hc => aa (off := 1) (by kernel_rfl) rfl) ?_
   refine aG rfl rfl (fun hc => ae 3 tk3 (ab rfl hc) rfl rfl) (aG rfl rfl (fun hc => bJ (ab rfl hc) rfl) (aU rfl (cx rfl rfl (fun h => gf rfl h)) (aM rfl ?_)))
   refine aG rfl rfl (fun hc => aa (off := 1) (by kernel_rfl) rfl) ?_
   refine aG rfl rfl (fun hc => ae 3 tk3 (ab rfl hc) rfl rfl) (aG rfl rfl (fun hc => aq rfl) (aG rfl rfl (fun hc => bq Tryz.underlying280 (ab rfl hc)) (aG rfl rfl (fun hc => aq rfl) ?_)))
   refine aG rfl rfl (fun hc => dT (ab rfl hc) (ab rfl hc) (by (first | omega | (simp at hc; omega)))) ?_
   refine aG rfl rfl (fun hc => dp (ab rfl hc) (ab rfl hc)) (aU rfl (cx rfl rfl (fun h => gf rfl h)) (aNn ?_))
   refine ah _ rfl (fun h3 => ?_) (fun h3 => ?_)
   ·skip
    refine bg (bj (bz (aw (ai ?_))))
    refine aU rfl (bB rfl rfl (by omega)) ?_
    refine aM rfl (aNn ?_)
    refine ⟨[1, 2, 5, 6, 24, 25, 26], [2, 1, 0], [0, 1, 2], rfl, ?_⟩
    exact ⟨k + 1, ⟨by omega, rfl⟩, by omega⟩
   ·skip
    have hat : 0 ≤ r.at_ ∧ r.at_ + gy r.kind ≤ s.bytes.size := by simp at h3; omega
    obtain ⟨a0, ha0⟩ := Int.eq_ofNat_of_zero_le hat.1
    obtain ⟨w0, hw0⟩ := Int.eq_ofNat_of_zero_le (show 0 ≤ gy r.kind by omega)
    refine au (aw (aSR (aM rfl ?_)))
    refine aU rfl (aa (off := 1) (by kernel_rfl) rfl) ?_
    refine aU rfl (ae 3 tk3 rfl rfl rfl) ?_
    refine aU rfl (aa (off := 1) (by kernel_rfl) rfl) ?_
    refine aU rfl (ae 3 tk3 rfl rfl rfl) (aM rfl ?_)
    refine aU rfl (bB rfl rfl (by omega)) ?_
    refine aU rfl (gj a0 (a0 + w0) el280 rfl rfl rfl ha0 (by omega) (by omega) (by omega) hcb) ?_
    refine aA rfl (aNs (aSR ?_))
    refine aU rfl (aa (off := 2) (by kernel_rfl) rfl) ?_
    refine aU rfl (ae 3 tk3 rfl rfl rfl) ?_
    refine al (q := true) rfl (bF [] [] (by kernel_rfl) rfl rfl rfl rfl (uX _) ?_)
    rintro _ _ _ ⟨rfl, rfl, oad, om, oc, rfl, how⟩
    refine cB (by (try simp only [nM, nN]); rfl) (by (try simp only [aV, place, Nat.reduceBEq, if_true, if_false, reduceIte, Nat.reduceAdd, nW]); rfl) ?_
    refine aU rfl (xO Tryz.underlying90 rfl) (aNn ?_)
    refine ah _ rfl (fun h4 => ?_) (fun h4 => ?_)
    ·skip
     have hw8 : w0 = 8 := by
       have := how (by intro e; subst e; simp at h4)
       omega
     refine ai (aM rfl ?_)
     refine aU rfl (iD 4 (a0 + w0 - a0 - 4) (0 + a0 * 1 + 4 * 1) el280 rfl rfl rfl (by omega) (by omega) rfl rfl) ?_
     refine aA rfl (aNn (ai (aM rfl ?_)))
     refine al (q := false) rfl (qd (cap := cb) 2 Tryz.underlying280 Tryz.zeroValue5 rfl rfl (by omega) (by omega) ?_)
     refine cA (bL (aw (ai ?_)))
     refine aU rfl (bB rfl rfl (by omega)) ?_
     refine aM rfl (aNn ?_)
     refine ⟨[1, 2, 5, 6, 24, 25, 26], [2, 1, 0], [0, 1, 2], rfl, ?_⟩
     exact ⟨k + 1, ⟨by omega, rfl⟩, by omega⟩
    ·skip
     refine au (aw (ai (aM rfl ?_)))
     refine al (q := false) rfl (qd (cap := cb) 2 Tryz.underlying280 Tryz.zeroValue5 rfl rfl (by omega) (by omega) ?_)
     refine cA (bL (aw (ai ?_)))
     refine aU rfl (bB rfl rfl (by omega)) ?_
     refine aM rfl (aNn ?_)
     refine ⟨[1, 2, 5, 6, 24, 25, 26], [2, 1, 0], [0, 1, 2], rfl, ?_⟩
     exact ⟨k + 1, ⟨by omega, rfl⟩, by omega⟩
  ·skip
   refine bg (bj (bj (bz (aw (az ?_)))))
   refine bn [] (by kernel_rfl) ?_
   show aB _ _ _ _ _ 17 #[false, false, false, false, false, false, false, false, false, false, false, false, false, false, false, false, false] _
   refine bU 0 rfl (by kernel_rfl) rfl (aa (off := 1) (by kernel_rfl) rfl) ?_
   refine bU 1 rfl (by kernel_rfl) rfl (ae 1 tk3 rfl rfl rfl) ?_
   refine bU 3 rfl (by kernel_rfl) rfl (aa (off := 2) (by kernel_rfl) rfl) ?_
   refine bU 4 rfl (by kernel_rfl) rfl (ae 1 tk3 rfl rfl rfl) ?_
   refine bU 7 rfl (by kernel_rfl) rfl (aa (off := 3) (by kernel_rfl) rfl) ?_
   refine bU 8 rfl (by kernel_rfl) rfl (ae 1 tk3 rfl rfl rfl) ?_
   refine bU 11 rfl (by kernel_rfl) rfl (aq rfl) ?_
   refine dI 12 rfl (by kernel_rfl) true rfl rfl (fun _ => pd 2 Tryz.underlying280 Tryz.underlying5 Tryz.underlying9 rfl rfl hcb) (fun h => absurd h (by decide)) (fun ⟨tb, htb⟩ => ?_)
   refine bV (q := true) 2 rfl (by kernel_rfl) rfl rfl (bF [] [] (by kernel_rfl) rfl rfl rfl rfl (jb _) ?_)
   rintro _ _ _ ⟨rfl, rfl, t1, ht1, rfl⟩
   refine cq rfl (by (try simp only [nM, nN]); rfl) (by (try simp only [aV, place, Nat.reduceBEq, if_true, if_false, reduceIte, Nat.reduceAdd, nW]); rfl) ?_
   refine bV (q := true) 5 rfl (by kernel_rfl) rfl rfl (bF [] [] (by kernel_rfl) rfl rfl rfl rfl (jb _) ?_)
   rintro _ _ _ ⟨rfl, rfl, t2, ht2, rfl⟩
   refine cq rfl (by (try simp only [nM, nN]); rfl) (by (try simp only [aV, place, Nat.reduceBEq, if_true, if_false, reduceIte, Nat.reduceAdd, nW]); rfl) ?_
   refine bU 6 rfl (by kernel_rfl) rfl (oR rfl rfl (by omega)) ?_
   refine bV (q := true) 9 rfl (by kernel_rfl) rfl rfl (bF [] [] (by kernel_rfl) rfl rfl rfl rfl (jb _) ?_)
   rintro _ _ _ ⟨rfl, rfl, t3, ht3, rfl⟩
   refine cq rfl (by (try simp only [nM, nN]); rfl) (by (try simp only [aV, place, Nat.reduceBEq, if_true, if_false, reduceIte, Nat.reduceAdd, nW]); rfl) ?_
   refine bU 10 rfl (by kernel_rfl) rfl (oR rfl rfl (by rw [ByteArray.size_append]; omega)) ?_
   refine bV (q := true) 13 rfl (by kernel_rfl) rfl rfl (bF [] [] (by kernel_rfl) rfl rfl rfl rfl (sM tb (by omega)) ?_)
   rintro _ _ _ ⟨rfl, rfl, t4, ht4, rfl⟩
   refine cq rfl (by (try simp only [nM, nN]); rfl) (by (try simp only [aV, place, Nat.reduceBEq, if_true, if_false, reduceIte, Nat.reduceAdd, nW]); rfl) ?_
   refine bU 14 rfl (by kernel_rfl) rfl (oR rfl rfl (by rw [ByteArray.size_append, ByteArray.size_append]; omega)) ?_
   refine bV (q := true) 15 rfl (by kernel_rfl) rfl rfl (bF [2, 1] [] (by kernel_rfl) rfl rfl rfl rfl (wZ _ (by rw [ByteArray.size_append, ByteArray.size_append, ByteArray.size_append]; unfold maxLen; omega)) ?_)
   rintro _ _ _ ⟨rfl, rfl, t5, rfl⟩
   refine cq rfl (by (try simp only [nM, nN]); rfl) (by (try simp only [aV, place, Nat.reduceBEq, if_true, if_false, reduceIte, Nat.reduceAdd, nW]); rfl) ?_
   refine bU 16 rfl (by kernel_rfl) rfl (bk rfl) ?_
   refine bS (by kernel_rfl) ?_
   refine aw (aj ?_)
   refine bc [] [] rfl Tryz.results82 rfl ?_ (.inr rfl)
   exact ⟨rfl, rfl, _, rfl⟩
end Go.Proofs.YtgmiihmahaahiaaGreatDoor

namespace Go.Proofs.YtgmiihmahaahiaaGreatDoor
open Go.RowKit Go.Lp Go.Sy
open Go.Proofs.Tryz
attribute [local irreducible] aL aB awp aC fwp
theorem sG (v : Value) (zs : List Int) (hz : zs.length ≤ 1000) (F : FuncId) (caps : List Value) (p : Per) (hF : bI Tryz.prog F = true) (h : ∀ a ∈ zs, Con Tryz.prog F (eI a :: caps) [p] [] (fun r _ _ => r = .bool false)) : Con Tryz.prog 186 [v, .func (.func F) #[] caps.toArray] [p] [bH v 3 1 (zs.map eD)]
   fun r ps hp => ps = [] ∧ hp = [bH v 3 1 (zs.map eD)] ∧ r = .int .i64 (-1) := by
 refine Con.enter Tryz.func186 rfl (by simp [Tryz.ntmps186]) ?_
 show awp _ _ _ _ ⟨[(0, true, _), (1, true, _)], _, _⟩
 refine aSR (aA rfl (aNs (aSR (aM rfl (aU rfl (fq 0 Tryz.underlying90 rfl rfl) (aM rfl (aNn (ax ?_))))))))
 refine aZ [0, 1, 7, 8] [0] [0] (fun (k : Nat) s => k ≤ zs.length ∧ s = ⟨[(0, true, v), (1, true, .func (.func F) #[] caps.toArray), (7, true, .int .i64 zs.length), (8, true, .int .i64 k)], [p], [bH v 3 1 (zs.map eD)]⟩) (fun k => zs.length - k) rfl (⟨0, Nat.zero_le _, by rw [List.length_map]; rfl⟩) ?_
 rintro k s ⟨hk, rfl⟩
 refine aSR (aU rfl (bJ rfl rfl) (aNs ?_))
 refine ah _ rfl (fun h1 => ?_) (fun h1 => ?_)
 ·skip
  have hk' : k < zs.length := by simpa using h1
  obtain ⟨a, ha⟩ : ∃ a, zs[k]? = some a := ⟨zs[k]'hk', by simp⟩
  refine au (aw (az (ax (aSR (aM rfl (aA rfl (aNn (aSR (aM rfl (aM rfl (aM rfl ?_)))))))))))
  refine aU rfl (dU 0 k el90 rfl rfl rfl rfl (by rw [List.length_map]; exact hk')) ?_
  refine aU rfl (ej 0 k 0 tk3 rfl rfl (aS ha) rfl rfl) (aU rfl (kM hF rfl rfl (fun w S fp hst => (h a (List.mem_of_getElem? ha)).quiet1 (an 0 rfl) hst)) (aNn ?_))
  refine ah _ rfl (fun h2 => ?_) (fun h2 => ?_)
  ·skip
   exact absurd h2 (by decide)
  ·skip
   refine au (bL (aw (ai ?_)))
   refine aU rfl (bB rfl rfl (by omega)) ?_
   refine aM rfl (aNn ?_)
   refine ⟨[0, 1, 7, 8], [0], [0], rfl, ?_⟩
   exact ⟨k + 1, ⟨by omega, rfl⟩, by omega⟩
 ·skip
  refine bg (bj (bj (bz (aw (aSR (aA rfl (aNn (aj ?_))))))))
  refine bc [] [0] rfl Tryz.results186 rfl ?_ (.inr rfl)
  exact ⟨rfl, rfl, rfl⟩
theorem wj (v : Value) (zs : List Int) (hz : zs.length ≤ 1000) (F : FuncId) (caps : List Value) (p : Per) (hF : bI Tryz.prog F = true) (h : ∀ a ∈ zs, Con Tryz.prog F (eI a :: caps) [p] [] (fun r _ _ => r = .bool false)) : Con Tryz.prog 79 [v, .func (.func F) #[] caps.toArray] [p] [bH v 3 1 (zs.map eD)]
   fun r ps hp => ps = [] ∧ hp = [bH v 3 1 (zs.map eD)] ∧ r = v := by
 refine Con.enter Tryz.func79 rfl (by simp [Tryz.ntmps79]) ?_
 show awp _ _ _ _ ⟨[(0, true, _), (1, true, _)], _, _⟩
 refine aSR (aA rfl (aNn (aSR (aM rfl (aM rfl ?_)))))
 refine al (q := false) rfl (bF [0] [0] (by kernel_rfl) rfl rfl rfl rfl (sG v zs hz F caps p hF h) ?_)
 rintro _ _ _ ⟨rfl, rfl, rfl⟩
 refine cB (by (try simp only [nM, nN]); rfl) (by (try simp only [aV, place, Nat.reduceBEq, if_true, if_false, reduceIte, Nat.reduceAdd, nW]); rfl) ?_
 refine aA rfl (aNs (aSR (aM rfl (aU rfl (bK rfl rfl) (aNn ?_)))))
 refine ah _ rfl (fun h1 => ?_) (fun h1 => ?_)
 ·skip
  refine aSR (aM rfl (aA rfl (aNn (aj (aO ?_)))))
  refine bc [] [0] rfl Tryz.results79 rfl ?_ (.inr rfl)
  exact ⟨rfl, rfl, rfl⟩
 ·skip
  exact absurd h1 (by decide)
theorem qv (l : Sl Int) (hl : l.l.length ≤ 1000) : Con Tryz.prog 80 [l.val] [ShF eD l] [] fun r ps hp => ps = [] ∧ ∃ (ad : Option Addr) (c : Nat), r = .slice ad l.l.length c ∧ hp = [bH (.slice ad l.l.length c) 3 1 (l.l.map eD)] := by
 refine Con.enter Tryz.func80 rfl (by simp [Tryz.ntmps80]) ?_
 show awp _ _ _ _ ⟨[(0, true, _)], _, _⟩
 refine jw (φ := l.ad = none → l.l = []) (fun w S fp hst => ?_) (fun hnil => ?_)
 · intro hn
   have hrep : ei w S (.slice l.ad l.l.length l.cap) (.sl (l.l.map eD)) := hst.per _ (an 0 rfl)
   rw [hn] at hrep
   generalize hrw : l.l.map eD = rows at hrep
   generalize l.l.length = m at hrep
   cases hrep with
   | e => exact List.map_eq_nil_iff.1 hrw
 refine aSR (aA rfl (aNs (aSR (aM rfl (aU rfl (uf Tryz.underlying90 rfl) (aNn ?_))))))
 refine ah _ rfl (fun h1 => ?_) (fun h1 => ?_)
 ·skip
  have hl0 : l.l = [] := hnil (by simpa using h1)
  refine az (eZ 3 1 ?_)
  show awp _ _ _ _ ⟨_, _, [_]⟩
  refine ai (aA rfl (aNn (aj (aO ?_))))
  refine bc [] [0] rfl Tryz.results80 rfl ?_ (.inr rfl)
  exact ⟨rfl, none, 0, by rw [hl0]; rfl, by rw [hl0]; rfl⟩
 ·skip
  refine au (aw (aSR ?_))
  refine al (q := true) rfl (iy el90 rfl (fun v3_0 => ?_))
  refine aH (by (try simp only [nM, nN]); rfl) ?_
  refine aM rfl ?_
  refine al rfl (mR 0 el90 el90 rfl rfl rfl rfl (an 0 rfl) ((fun r hr => by obtain ⟨z, _, rfl⟩ := List.mem_map.1 hr; rfl)) (by show ([] : List (List D)).length + (l.l.map eD).length ≤ _; rw [List.length_map]; exact Nat.le_trans (show 0 + l.l.length ≤ 1000 by omega) (by decide)) (l.l.length) (by simp; try omega) (fun v3_2 c3_2 => ?_))
  refine aH (by (try simp only [nK, nL]); rfl) ?_
  refine aA rfl (aNn (aj ?_))
  refine bc [] [0] rfl Tryz.results80 rfl ?_ (.inr rfl)
  exact ⟨rfl, v3_2, c3_2, rfl, rfl⟩
theorem tg (b : Nat) (o : ar) (z : Int) (hz : 0 ≤ z ∧ z < o.secs.l.length) : Con Tryz.prog 81 [eI z, .pointer (some ⟨b, 0, none⟩)] [cw (At b 0 o.row) o.ok] [] (fun r _ _ => r = .bool false) := by
 refine Con.pre (ps := [At b 0 o.row, o.ok]) ?_ (el ff.left ff.right)
 refine Con.enter Tryz.func81 rfl (by simp [Tryz.ntmps81]) ?_
 show awp _ _ _ _ ⟨[(0, true, _), (1, true, _)], _, _⟩
 refine bf (ar.f_secs (.of (an 1 rfl))) (fun hlen => ?_)
 refine aSR (aA rfl (aNn (aSR (aM rfl (aU rfl (bJ rfl rfl) (aM rfl (aG rfl rfl (fun hc => aq rfl) ?_)))))))
 refine aG rfl rfl (fun hc => aa (off := 1) (by kernel_rfl) rfl) ?_
 refine aG rfl rfl (fun hc => aK (o := 1) tk50 (ab rfl hc) (.of (an 0 rfl)) rfl) (aG rfl rfl (fun hc => bq Tryz.underlying50 (ab rfl hc)) (aG rfl rfl (fun hc => cQ (ab rfl hc) (ab rfl hc)) (aU rfl (cx rfl rfl (fun h => gf rfl h)) (aA rfl (aNn (aj ?_))))))
 refine bc [] [] rfl Tryz.results81 rfl ?_ (.inr rfl)
 simp; omega
theorem oQ (o : ar) (g : cR) (hl : g.secs.l.length ≤ 1000) (hz : ∀ z ∈ g.secs.l, 0 ≤ z ∧ z < o.secs.l.length) : Con Tryz.prog 32 [o.val, g.val] [ShF eD g.secs, o.ok] [] fun r ps hp => hp = [] ∧ ∃ s : Sl Int, s.l = g.secs.l ∧ r = s.val ∧ ps = [ShF eD s] := by
 refine Con.conv (R := fun r ps hp => ps = [] ∧ ∃ (ad : Option Addr) (c : Nat), r = .slice ad g.secs.l.length c ∧ hp = [bH (.slice ad g.secs.l.length c) 3 1 (g.secs.l.map eD)]) ?_ fun _ _ _ ⟨h1, ad, c, h2, h3⟩ => ?_
 rotate_left
 · subst h1 h2 h3
   exact ⟨_, _, (StE.share 0 (ShF eD ⟨ad, c, g.secs.l⟩) rfl fun _ _ _ h => et h).trans (StE.keep [0] [] rfl), rfl, ⟨ad, c, g.secs.l⟩, rfl, rfl, rfl⟩
 refine Con.enter Tryz.func32 rfl (by simp [Tryz.ntmps32]) ?_
 show awp _ _ _ _ ⟨[(0, true, _), (1, true, _)], _, _⟩
 refine aSR ?_
 refine al (q := true) rfl (bO rfl rfl rfl (fun b0_0 => ?_))
 refine aH (by (try simp only [nM, nN]); rfl) ?_
 refine al (q := true) rfl (bO rfl rfl rfl (fun b0_1 => ?_))
 refine aH (by (try simp only [nM, nN]); rfl) ?_
 refine aA rfl (aNs (bT 0 rfl rfl ?_))
 show awp _ _ _ _ ⟨_, At _ 0 _ :: _, _⟩
 refine ai ?_
 refine aU rfl (aa (off := 1) (by kernel_rfl) rfl) ?_
 refine aU rfl (ae 1 tk90 rfl rfl rfl) ?_
 refine al (q := true) rfl (bF [1] [] (by kernel_rfl) rfl rfl rfl rfl (qv g.secs hl) ?_)
 rintro _ _ _ ⟨rfl, ad, cc, rfl, rfl⟩
 refine cB (by (try simp only [nM, nN]); rfl) (by (try simp only [aV, place, Nat.reduceBEq, if_true, if_false, reduceIte, Nat.reduceAdd, nW]); rfl) ?_
 refine aU rfl (dn (l := [.tmp 2]) rfl) ?_
 refine al (q := false) rfl (bF [2, 0] [2] (by kernel_rfl) rfl rfl rfl rfl ((wj (.slice ad g.secs.l.length cc) g.secs.l hl 81 [.pointer (some ⟨b0_0, 0, none⟩)] (cw (At b0_0 0 o.row) o.ok) (by kernel_rfl) (fun z hz2 => tg b0_0 o z (hz z hz2))).pre (fun p hp => (List.mem_singleton.1 hp) ▸ .mk2 (.of (an 0 rfl)) (.of (an 1 rfl)))) ?_)
 rintro _ _ _ ⟨rfl, rfl, rfl⟩
 refine cB (by (try simp only [nM, nN]); rfl) (by (try simp only [aV, place, Nat.reduceBEq, if_true, if_false, reduceIte, Nat.reduceAdd, nW]); rfl) ?_
 refine aA rfl (aNn (aj ?_))
 refine bc [] [2] rfl Tryz.results32 rfl ?_ (.inr rfl)
 exact ⟨rfl, ad, cc, rfl, rfl⟩
end Go.Proofs.YtgmiihmahaahiaaGreatDoor

namespace Go.Proofs.YtgmiihmahaahiaaGreatDoor
open Go.RowKit Go.Lp Go.Sy
open Go.Proofs.Tryz
attribute [local irreducible] aL aB awp aC fwp
abbrev fP : ByteArray → List D := fun s => [.v (.string s)]
theorem lK (a b : Sl ByteArray) : Con Tryz.prog 83 [a.val, b.val] [ShF fP a, ShF fP b] [] (YB True) := by
 refine Con.enter Tryz.func83 rfl (by simp [Tryz.ntmps83]) ?_
 show awp _ _ _ _ ⟨[(0, true, _), (1, true, _)], _, _⟩
 refine bf (.of (an 0 rfl)) (fun hlen => ?_)
 refine bf (.of (an 1 rfl)) (fun hlen2 => ?_)
 refine aSR (aA rfl (aNs (aSR (aM rfl (aU rfl (bq Tryz.underlying77 rfl) (aM rfl (aU rfl (bq Tryz.underlying77 rfl) (aU rfl (cN rfl rfl) (aNn ?_)))))))))
 refine ah _ rfl (fun h1 => ?_) (fun h1 => ?_)
 ·skip
  refine aSR (aA rfl (aNn (aj (aO ?_))))
  refine bc [] [] rfl Tryz.results83 rfl ?_ (.inr rfl)
  exact ⟨⟨rfl, rfl⟩, _, rfl, fun _ => trivial⟩
 ·skip
  have hab : a.l.length = b.l.length := by simp at h1; omega
  refine au (aw (az (aSR (aM rfl (aU rfl (bq Tryz.underlying77 rfl) (aM rfl ?_))))))
  refine aNn (ax (aZ [0, 1, 11, 12, 13] [1, 0] [] (fun (k : Nat) s => k ≤ a.l.length ∧ s = ⟨[(0, true, a.val), (1, true, b.val), (11, true, a.val), (12, true, .int .i64 a.l.length), (13, true, .int .i64 k)], [ShF fP a, ShF fP b], []⟩) (fun k => a.l.length - k) rfl (⟨0, Nat.zero_le _, rfl⟩) ?_))
  rintro k s ⟨hk, rfl⟩
  refine aSR (aU rfl (bJ rfl rfl) (aNs ?_))
  refine ah _ rfl (fun h2 => ?_) (fun h2 => ?_)
  ·skip
   have hk' : k < a.l.length := by simpa using h2
   obtain ⟨x, hx⟩ : ∃ x, a.l[k]? = some x := ⟨_, List.getElem?_eq_getElem hk'⟩
   obtain ⟨y, hy⟩ : ∃ y, b.l[k]? = some y := ⟨_, List.getElem?_eq_getElem (by omega)⟩
   refine au (aw (az (ax (aSR (aM rfl (aA rfl (aNs ?_)))))))
   refine bn [] (by kernel_rfl) ?_
   show aB _ _ _ _ _ 9 #[false, false, false, false, false, false, false, false, false] _
   refine bU 0 rfl (by kernel_rfl) rfl (aq rfl) ?_
   refine bU 1 rfl (by kernel_rfl) rfl (aq rfl) ?_
   refine dI 2 rfl (by kernel_rfl) true rfl rfl (fun _ => av Tryz.underlying77 tk9 rfl ((.of (an 0 rfl))) rfl (aS hx) rfl rfl) (fun h => absurd h (by decide)) (fun ⟨b6_2, o6_2⟩ => ?_)
   refine bU 3 rfl (by kernel_rfl) rfl (aR (o := 0) tk9 rfl (an 0 rfl) rfl rfl) ?_
   refine bU 4 rfl (by kernel_rfl) rfl (aq rfl) ?_
   refine bU 5 rfl (by kernel_rfl) rfl (aq rfl) ?_
   refine dI 6 rfl (by kernel_rfl) true rfl rfl (fun _ => av Tryz.underlying77 tk9 rfl ((.of (an 2 rfl))) rfl (aS hy) rfl rfl) (fun h => absurd h (by decide)) (fun ⟨b6_6, o6_6⟩ => ?_)
   refine bU 7 rfl (by kernel_rfl) rfl (aR (o := 0) tk9 rfl (an 0 rfl) rfl rfl) ?_
   refine bU 8 rfl (by kernel_rfl) rfl (oE rfl rfl) ?_
   refine bS (by kernel_rfl) ?_
   refine aw ?_
   refine ah _ rfl (fun h3 => ?_) (fun h3 => ?_)
   ·skip
    refine aSR (aA rfl (aNn (aj (bC (aO (aO (bC (aO ?_))))))))
    refine bc [] [] rfl Tryz.results83 rfl ?_ (.inr rfl)
    exact ⟨⟨rfl, rfl⟩, _, rfl, fun _ => trivial⟩
   ·skip
    refine au (bL (aw (ai ?_)))
    refine aU rfl (bB rfl rfl (by omega)) ?_
    refine aM rfl (aNn ?_)
    refine ⟨[0, 1, 11, 12, 13], [1, 0], [], rfl, ?_⟩
    exact ⟨k + 1, ⟨by omega, rfl⟩, by omega⟩
  ·skip
   refine bg (bj (bj (bz (aw (aSR (aA rfl (aNn (aj ?_))))))))
   refine bc [] [] rfl Tryz.results83 rfl ?_ (.inr rfl)
   exact ⟨⟨rfl, rfl⟩, _, rfl, fun _ => trivial⟩
structure Cp where
 obj : Int
 nm : Sl ByteArray
 fm : Sl ByteArray
 deriving Inhabited
abbrev Cp.val (c : Cp) : Value := .agg #[.int .i64 c.obj, .slice c.nm.ad c.nm.l.length c.nm.cap, .slice c.fm.ad c.fm.l.length c.fm.cap]
abbrev Cp.vs (c : Cp) : List Value := [.int .i64 c.obj, .slice c.nm.ad c.nm.l.length c.nm.cap, .slice c.fm.ad c.fm.l.length c.fm.cap]
def Cp.ok (c : Cp) : Per := cw (ShF fP c.nm) (ShF fP c.fm)
theorem td (a b : Cp) : Con Tryz.prog 34 [a.val, b.val] [a.ok, b.ok] [] (YB True) := by
 refine Con.enter Tryz.func34 rfl (by simp [Tryz.ntmps34]) ?_
 show awp _ _ _ _ ⟨[(0, true, _), (1, true, _)], _, _⟩
 refine aSR ?_
 refine al (q := true) rfl (bO rfl rfl rfl (fun b0_0 => ?_))
 refine aH (by (try simp only [nM, nN]); rfl) ?_
 refine al (q := true) rfl (bO rfl rfl rfl (fun b0_1 => ?_))
 refine aH (by (try simp only [nM, nN]); rfl) ?_
 refine aA rfl (aNn (aSR ?_))
 refine aU rfl (aa (off := 1) (by kernel_rfl) rfl) ?_
 refine aU rfl (ae 0 tk77 rfl rfl rfl) ?_
 refine aU rfl (aa (off := 1) (by kernel_rfl) rfl) ?_
 refine aU rfl (ae 1 tk77 rfl rfl rfl) ?_
 refine aQ (caps := []) [1, 0] (false) (by kernel_rfl) true rfl rfl (fun _ => rfl) (fun hc => rfl) (fun hc => by rw [List.append_nil]; exact (lK a.nm b.nm).pre (el (Ent.left (p := ShF fP a.nm) (q := ShF fP a.fm) (.of (an 0 rfl))) (Ent.left (p := ShF fP b.nm) (q := ShF fP b.fm) (.of (an 1 rfl))))) (fun c1 hc1 => ?_)
 refine aM rfl ?_
 refine aG rfl rfl (fun hc => aa (off := 2) (by kernel_rfl) rfl) ?_
 refine aG rfl rfl (fun hc => ae 0 tk77 (ab rfl hc) rfl rfl) ?_
 refine aG rfl rfl (fun hc => aa (off := 2) (by kernel_rfl) rfl) ?_
 refine aG rfl rfl (fun hc => ae 1 tk77 (ab rfl hc) rfl rfl) ?_
 refine aQ (caps := []) [1, 0] (false) (by kernel_rfl) _ rfl rfl (fun _ => rfl) (fun hc => (aN (ab rfl hc) (aN (ab rfl hc) rfl))) (fun hc => by rw [List.append_nil]; exact (lK a.fm b.fm).pre (el (Ent.right (p := ShF fP a.nm) (q := ShF fP a.fm) (.of (an 0 rfl))) (Ent.right (p := ShF fP b.nm) (q := ShF fP b.fm) (.of (an 1 rfl))))) (fun c2 hc2 => ?_)
 refine aU rfl (bA rfl rfl (fun h => gt rfl h)) (aA rfl (aNn (aj ?_)))
 refine bc [] [] rfl Tryz.results34 rfl ?_ (.inr rfl)
 exact ⟨⟨rfl, rfl⟩, _, rfl, fun _ => trivial⟩
theorem vu (os : Sl ar) (i : Nat) (hi : i < os.l.length) (hb : ∀ s ∈ (elt os.l (i : Int)).secs.l, s.bytes.size ≤ 1048576) (s : Sl Int) (hl : s.l.length ≤ 1000) (hz : ∀ z ∈ s.l, 0 ≤ z ∧ z < (elt os.l (i : Int)).secs.l.length) :
   Con Tryz.prog 33 [os.val, .int .i64 i, s.val] [ShF eD s, dh, di, ShF ar.row os, bW ar.ok os.l] [] fun r ps hp => hp = [] ∧ ∃ c : Cp, r = c.val ∧ ps = [c.ok] := by
 have ho := bY hi
 generalize hoo : elt os.l (i : Int) = o at ho hb hz
 refine Con.conv (R := fun r ps hp => ps = [] ∧ ∃ (na : Option Addr) (nc : Nat) (nm : List ByteArray) (fa : Option Addr) (fc : Nat) (fm : List ByteArray), r = .agg #[.int .i64 i, .slice na nm.length nc, .slice fa fm.length fc] ∧ hp = [bH (.slice na nm.length nc) 9 1 (nm.map fP), bH (.slice fa fm.length fc) 9 1 (fm.map fP)]) ?_ fun _ _ _ ⟨h1, na, nc, nm, fa, fc, fm, h2, h3⟩ => ?_
 rotate_left
 · subst h1 h2 h3
   refine ⟨_, _, (StE.share 0 (ShF fP ⟨na, nc, nm⟩) rfl fun _ _ _ h => et h).trans ((StE.share 1 (ShF fP ⟨fa, fc, fm⟩) rfl fun _ _ _ h => et h).trans ((StE.keep [0, 1] [] rfl).trans (StE.ents (ps' := [(⟨i, ⟨na, nc, nm⟩, ⟨fa, fc, fm⟩⟩ : Cp).ok]) fun p hp => ?_))), rfl, ⟨i, ⟨na, nc, nm⟩, ⟨fa, fc, fm⟩⟩, rfl, rfl⟩
   rw [List.mem_singleton.1 hp]
   exact .mk2 (.of (an 0 rfl)) (.of (an 1 rfl))
 refine Con.enter Tryz.func33 rfl (by simp [Tryz.ntmps33]) ?_
 show awp _ _ _ _ ⟨[(0, true, _), (1, true, _), (2, true, _)], _, _⟩
 refine bf (.of (an 0 rfl)) (fun hlen => ?_)
 refine aSR ?_
 refine al (q := true) rfl (bp (zs := [.int .i64 0, .slice none 0 0, .slice none 0 0]) (by kernel_rfl) rfl (fun b0_0 => ?_))
 refine aH (by (try simp only [nM, nN]); rfl) ?_
 refine aNn (aSR (aM rfl ?_))
 refine aU rfl (dF (l := [(0, .tmp 10)]) (zs := [.int .i64 0, .slice none 0 0, .slice none 0 0]) (pl := [(0, 1), (1, 1), (2, 1)]) (by kernel_rfl) (by kernel_rfl) (by kernel_rfl) rfl rfl rfl) ?_
 refine al (q := true) rfl (bp (zs := [.int .i64 0, .slice none 0 0, .slice none 0 0]) (by kernel_rfl) rfl (fun b1_2 => ?_))
 refine aH (by (try simp only [nM, nN]); rfl) ?_
 refine al rfl (aW 1 tk95 rfl rfl rfl rfl ?_)
 refine aH (by (try simp only [nK, nL]); rfl) ?_
 refine aNs (az ?_)
 refine eZ 9 1 (eZ 9 1 ?_)
 show awp _ _ _ _ ⟨_, _, [_, _, _, _]⟩
 refine ai (aM rfl (aU rfl (bq Tryz.underlying90 rfl) (aM rfl (aNn (ax (aZ [0, 1, 6, 7, 12, 13, 14] [4, 3, 2, 1, 0] [0, 1, 2, 3] (fun (q : Nat × ((Value × List ByteArray) × (Value × List ByteArray))) st => (q.1 ≤ s.l.length ∧ q.2.1.2.length = q.1 ∧ q.2.2.2.length = q.1) ∧ st = ⟨[(0, true, os.val), (1, true, .int .i64 i), (6, true, .pointer (some ⟨b0_0, 0, none⟩)), (7, true, .pointer (some ⟨b1_2, 0, none⟩)), (12, true, s.val), (13, true, .int .i64 s.l.length), (14, true, .int .i64 q.1)], [ShF eD s, dh, di, ShF ar.row os, bW ar.ok os.l], [Box b0_0 95 [.int .i64 0, .slice none 0 0, .slice none 0 0], Box b1_2 95 [.int .i64 i, q.2.1.1, q.2.2.1], bH q.2.1.1 9 1 (q.2.1.2.map fP), bH q.2.2.1 9 1 (q.2.2.2.map fP)]⟩) (fun q => s.l.length - q.1) rfl (⟨(0, ((.slice none 0 0, []), (.slice none 0 0, []))), ⟨Nat.zero_le _, rfl, rfl⟩, rfl⟩) ?_))))))
 rintro ⟨k, ⟨nv, nm⟩, ⟨fv, fm⟩⟩ st ⟨⟨hk, hn, hf⟩, rfl⟩
 dsimp only at hk hn hf ⊢
 refine aSR (aU rfl (bJ rfl rfl) (aNs ?_))
 refine ah _ rfl (fun h1 => ?_) (fun h1 => ?_)
 ·skip
  have hk' : k < s.l.length := by simpa using h1
  obtain ⟨z, hzk⟩ : ∃ z, s.l[k]? = some z := ⟨_, List.getElem?_eq_getElem hk'⟩
  have hzr := hz z (List.mem_of_getElem? hzk)
  refine au (aw (az (ax (aSR ?_))))
  refine cF true rfl rfl (fun _ => av Tryz.underlying90 tk3 rfl ((.of (an 0 rfl))) rfl (aS hzk) rfl rfl) (fun h => absurd h (by decide)) (fun ⟨b4_0, o4_0⟩ => ?_)
  refine aU rfl (aR (o := 0) tk3 rfl (an 0 rfl) rfl rfl) (aA rfl (aNs ?_))
  refine dQ [12, 14] [14] [b1_2] (by kernel_rfl) ?_
  show aC _ _ _ _ _ _ _ 15 #[false, false, false, false, false, false, false, false, false, false, false, false, false, false, false] _
  refine bD 0 rfl (by kernel_rfl) true rfl rfl (fun _ => aa (off := 1) (by kernel_rfl) rfl) ?_
  refine ez 1 1 rfl (by kernel_rfl) true rfl rfl (by simp) tk77 (fun _ => rfl) rfl rfl ?_
  refine bD 2 rfl (by kernel_rfl) true rfl rfl (fun _ => aq rfl) ?_
  refine bD 3 rfl (by kernel_rfl) true rfl rfl (fun _ => aq rfl) ?_
  refine uK 4 rfl (by kernel_rfl) rfl rfl (eK Tryz.underlying22 tk61 rfl ((.of (an 4 rfl))) rfl (aS ho) rfl rfl) (fun ⟨b5_4, o5_4⟩ => ?_)
  refine bD 5 rfl (by kernel_rfl) true rfl rfl (fun _ => aa (off := 1) (by kernel_rfl) rfl) ?_
  refine bD 6 rfl (by kernel_rfl) true rfl rfl (fun _ => aK (o := 1) tk50 rfl (.of (an 0 rfl)) rfl) ?_
  refine bD 7 rfl (by kernel_rfl) true rfl rfl (fun _ => aq rfl) ?_
  refine uK 8 rfl (by kernel_rfl) rfl rfl (eK Tryz.underlying50 tk85 rfl ((ar.f_secs (Ent.all (.of (an 6 rfl)) ho))) rfl (dO (i := z) hzr.2 hzr.1) (by omega) rfl) (fun ⟨b5_8, o5_8⟩ => ?_)
  refine bD 9 rfl (by kernel_rfl) true rfl rfl (fun _ => aa (off := 0) (by kernel_rfl) rfl) ?_
  refine bD 10 rfl (by kernel_rfl) true rfl rfl (fun _ => aK (o := 0) tk9 rfl (.of (an 0 rfl)) rfl) ?_
  refine aY 11 [] (by kernel_rfl) (aI ?_ aP)
  refine bd 11 rfl rfl (Eff.x ?_)
  refine id (cz (zs := [.string .empty]) (l := [(0, .tmp 28)]) el77 (by kernel_rfl) (by decide) (by decide) (by decide) rfl rfl rfl (.more rfl (.v rfl .nil) .nil) rfl rfl (fun v5_11 => ?_))
  refine bt (by (try simp only [nO, nK, nL]); rfl) (by (try simp only [nM, nN]); rfl) (by (try simp only [aX, nQ, nR, aV, place, Nat.reduceBEq, if_true, if_false, reduceIte, Nat.reduceAdd, nW]); rfl) ?_
  refine aY 12 [] (by kernel_rfl) (aI ?_ aP)
  refine bd 12 rfl rfl (Eff.framed (q := false) [2, 4] rfl rfl (cY 1 rfl rfl eb) ?_)
  refine id (bX 0 el77 rfl rfl rfl rfl (cH 1 el77 rfl (by simp)) (by first | assumption | simp) (by show (nm.map fP).length + 1 ≤ _; rw [List.length_map]; exact Nat.le_trans (show nm.length + 1 ≤ 1001 by omega) (by decide)) ((nm ++ [(elt o.secs.l z).name]).length) (by show (nm.map fP).length + 1 = _; rw [List.length_map, List.length_append]; rfl) (fun v5_12 c5_12 => ?_))
  refine dg ?_
  refine bt (by (try simp only [nO, nK, nL]); rfl) (by (try simp only [nM, nN]); rfl) (by (try simp only [aX, nQ, nR, aV, place, Nat.reduceBEq, if_true, if_false, reduceIte, Nat.reduceAdd, nW]); rfl) ?_
  refine bD 13 rfl (by kernel_rfl) true rfl rfl (fun _ => aa (off := 1) (by kernel_rfl) rfl) ?_
  refine aY 14 [] (by kernel_rfl) (aI ?_ aP)
  refine bd 14 rfl rfl (Eff.wild (q := false) ?_)
  refine id (aW 1 tk77 rfl rfl rfl rfl ?_)
  refine bt (by (try simp only [nO, nK, nL]); rfl) (by (try simp only [nM, nN]); rfl) (by (try simp only [aX, nQ, nR, aV, place, Nat.reduceBEq, if_true, if_false, reduceIte, Nat.reduceAdd, nW]); rfl) ?_
  refine db (by kernel_rfl) ?_
  refine aw ?_
  refine dQ [9, 11] [11] [b1_2] (by kernel_rfl) ?_
  show aC _ _ _ _ _ _ _ 12 #[false, false, false, false, false, false, false, false, false, false, false, false] _
  refine bD 0 rfl (by kernel_rfl) true rfl rfl (fun _ => aa (off := 2) (by kernel_rfl) rfl) ?_
  refine ez 1 1 rfl (by kernel_rfl) true rfl rfl (by simp) tk77 (fun _ => rfl) rfl rfl ?_
  refine bD 2 rfl (by kernel_rfl) true rfl rfl (fun _ => aq rfl) ?_
  refine bD 3 rfl (by kernel_rfl) true rfl rfl (fun _ => aq rfl) ?_
  refine uK 4 rfl (by kernel_rfl) rfl rfl (eK Tryz.underlying22 tk61 rfl ((.of (an 6 rfl))) rfl (aS ho) rfl rfl) (fun ⟨b6_4, o6_4⟩ => ?_)
  refine bD 5 rfl (by kernel_rfl) true rfl rfl (fun _ => aK (o := 0) tk61 rfl (.of (an 0 rfl)) rfl) ?_
  refine bD 6 rfl (by kernel_rfl) true rfl rfl (fun _ => aq rfl) ?_
  refine aY 7 [] (by kernel_rfl) (aI ?_ aP)
  refine bd 7 rfl rfl (Eff.x ?_)
  refine id (bF [3, 2, 0] [] (by kernel_rfl) rfl rfl rfl rfl ((v8 o hb z).pre (ra (.of (an 0 rfl)) (.of (an 1 rfl)) (Ent.all (.of (an 2 rfl)) ho))) ?_)
  rintro _ _ _ ⟨rfl, rfl, t, rfl⟩
  refine bt (by (try simp only [nO, nK, nL]); rfl) (by (try simp only [nM, nN]); rfl) (by (try simp only [aX, nQ, nR, aV, place, Nat.reduceBEq, if_true, if_false, reduceIte, Nat.reduceAdd, nW]); rfl) ?_
  refine aY 8 [] (by kernel_rfl) (aI ?_ aP)
  refine bd 8 rfl rfl (Eff.x ?_)
  refine id (cz (zs := [.string .empty]) (l := [(0, .tmp 39)]) el77 (by kernel_rfl) (by decide) (by decide) (by decide) rfl rfl rfl (.more rfl (.v rfl .nil) .nil) rfl rfl (fun v6_8 => ?_))
  refine bt (by (try simp only [nO, nK, nL]); rfl) (by (try simp only [nM, nN]); rfl) (by (try simp only [aX, nQ, nR, aV, place, Nat.reduceBEq, if_true, if_false, reduceIte, Nat.reduceAdd, nW]); rfl) ?_
  refine aY 9 [] (by kernel_rfl) (aI ?_ aP)
  refine bd 9 rfl rfl (Eff.framed (q := false) [3, 5] rfl rfl (cY 1 rfl rfl eb) ?_)
  refine id (bX 0 el77 rfl rfl rfl rfl (cH 1 el77 rfl (by simp)) (by first | assumption | simp) (by show (fm.map fP).length + 1 ≤ _; rw [List.length_map]; exact Nat.le_trans (show fm.length + 1 ≤ 1001 by omega) (by decide)) ((fm ++ [t]).length) (by show (fm.map fP).length + 1 = _; rw [List.length_map, List.length_append]; rfl) (fun v6_9 c6_9 => ?_))
  refine dg ?_
  refine bt (by (try simp only [nO, nK, nL]); rfl) (by (try simp only [nM, nN]); rfl) (by (try simp only [aX, nQ, nR, aV, place, Nat.reduceBEq, if_true, if_false, reduceIte, Nat.reduceAdd, nW]); rfl) ?_
  refine bD 10 rfl (by kernel_rfl) true rfl rfl (fun _ => aa (off := 2) (by kernel_rfl) rfl) ?_
  refine aY 11 [] (by kernel_rfl) (aI ?_ aP)
  refine bd 11 rfl rfl (Eff.wild (q := false) ?_)
  refine id (aW 1 tk77 rfl rfl rfl rfl ?_)
  refine bt (by (try simp only [nO, nK, nL]); rfl) (by (try simp only [nM, nN]); rfl) (by (try simp only [aX, nQ, nR, aV, place, Nat.reduceBEq, if_true, if_false, reduceIte, Nat.reduceAdd, nW]); rfl) ?_
  refine db (by kernel_rfl) ?_
  refine bL (aw (ai ?_))
  refine aU rfl (bB rfl rfl (by omega)) ?_
  refine aM rfl (aNn ?_)
  refine ⟨[0, 1, 6, 7, 12, 13, 14], [4, 3, 2, 1, 0], [0, 1, 2, 3], rfl, ?_⟩
  exact ⟨(k + 1, ((_, nm ++ [(elt o.secs.l z).name]), (_, fm ++ [t]))), ⟨⟨by dsimp only; omega, by dsimp only; rw [List.length_append]; simp; omega, by dsimp only; rw [List.length_append]; simp; omega⟩, by dsimp only; rw [List.map_append, List.map_append]; rfl⟩, by dsimp only; omega⟩
 ·skip
  refine bg (bj (bj (bz (aw (az ?_)))))
  refine fC 2 rfl (fun na nc hv => ?_)
  refine fC 3 rfl (fun fa fc hv2 => ?_)
  rw [List.length_map] at hv hv2
  subst hv hv2
  refine ai (aU rfl (ae 1 tk95 rfl rfl rfl) ?_)
  refine al rfl (aW 0 tk95 rfl rfl rfl rfl ?_)
  refine aH (by (try simp only [nK, nL]); rfl) ?_
  refine aNn (aj ?_)
  refine rU [] [2, 3] rfl Tryz.results33 (cT 0 tk95 rfl rfl rfl) ?_ (.inr rfl)
  exact ⟨rfl, na, nc, nm, fa, fc, fm, rfl, rfl⟩
end Go.Proofs.YtgmiihmahaahiaaGreatDoor

namespace Go.Proofs
open Go.Shelf
def Tryz.lays212_ren : Go.Shelf.Ren := ⟨fun | 212 => 78 | 263 => 184 | 264 => 185 | n => n, fun | 46 => 147 | 51 => 272 | 146 => 273 | 53 => 275 | 148 => 276 | n => n, fun | n => n⟩
theorem Tryz.lays212 : Go.Proofs.Lays.n212 Tryz.prog Tryz.lays212_ren := {
 mixed := by kernel_rfl
 f212 := Tryz.func78.trans (congrArg some (by kernel_rfl))
 f263 := Tryz.func184.trans (congrArg some (by kernel_rfl))
 f264 := Tryz.func185.trans (congrArg some (by kernel_rfl))
 t46 := Tryz.underlying147
 a46 := Tryz.isAgg147
 z46 := Tryz.sizeOf147
 v46 := Tryz.zeroValue147
 t51 := Tryz.underlying272
 a51 := Tryz.isAgg272
 z51 := Tryz.sizeOf272
 v51 := Tryz.zeroValue272
 t53 := Tryz.underlying275
 a53 := Tryz.isAgg275
 z53 := Tryz.sizeOf275
 v53 := Tryz.zeroValue275
 t146 := Tryz.underlying273
 a146 := Tryz.isAgg273
 z146 := Tryz.sizeOf273
 v146 := Tryz.zeroValue273
 t148 := Tryz.underlying276
 a148 := Tryz.isAgg276
 z148 := Tryz.sizeOf276
 v148 := Tryz.zeroValue276 }
end Go.Proofs

