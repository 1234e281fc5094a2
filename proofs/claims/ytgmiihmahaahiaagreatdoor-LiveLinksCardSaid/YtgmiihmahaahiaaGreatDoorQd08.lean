/- Parts of the proof, in build order. No condition. -/
import Derived.Test.YtgmiihmahaahiaaGreatDoorQd07
import Derived.Test.YtgmiihmahaahiaaGreatDoorQd03
import Derived.Test.YtgmiihmahaahiaaGreatDoorProg
import Derived.Ground.NamesProg
import Derived.Shelf.Bits.Mul64
import Derived.Test.YtgmiihmahaahiaaGreatDoorQd06
import Derived.Test.YtgmiihmahaahiaaGreatDoorQd05
set_option linter.unusedSimpArgs false
set_option linter.unusedVariables false
set_option maxHeartbeats 1000000
set_option maxRecDepth 20000
namespace Go.Proofs.YtgmiihmahaahiaaGreatDoor
open Go.RowKit Go.Lp Go.Sy
open Go.Proofs.Tryz
attribute [local irreducible] aL aB awp aC fwp
theorem xq (v : Value) (zs : List Int) (hz : zs.length ≤ 1000) (F : FuncId) (caps : List Value) (p : Per) (hF : e8 Tryz.prog F = true) (h : ∀ a ∈ zs, Con Tryz.prog F (eI a :: caps) [p] [] (fun r _ _ => r = .bool false)) : Con Tryz.prog 186 [v, .func (.func F) #[] caps.toArray] [p] [bg v 3 1 (zs.map gJ)]
   fun r ps hp => ps = [] ∧ hp = [bg v 3 1 (zs.map gJ)] ∧ r = .int .i64 (-1) := by
 refine Con.enter Tryz.func186 rfl (by simp [Tryz.ntmps186]) ?_
 show awp _ _ _ _ ⟨[(0, true, _), (1, true, _)], _, _⟩
 refine aSR (aA rfl (aNs (aSR (aM rfl (aU rfl (kK 0 Tryz.underlying90 rfl rfl) (aM rfl (aNn (aI ?_))))))))
 refine aT [0, 1, 7, 8] [0] [0] (fun (k : Nat) s => k ≤ zs.length ∧ s = ⟨[(0, true, v), (1, true, .func (.func F) #[] caps.toArray), (7, true, .int .i64 zs.length), (8, true, .int .i64 k)], [p], [bg v 3 1 (zs.map gJ)]⟩) (fun k => zs.length - k) rfl (⟨0, Nat.zero_le _, by rw [List.length_map]; rfl⟩) ?_
 rintro k s ⟨hk, rfl⟩
 refine aSR (aU rfl (bw rfl rfl) (aNs ?_))
 refine al _ rfl (fun h1 => ?_) (fun h1 => ?_)
 ·skip
  have hk' : k < zs.length := by simpa using h1
  obtain ⟨a, ha⟩ : ∃ a, zs[k]? = some a := ⟨zs[k]'hk', by simp⟩
  refine aq (az (aH (aI (aSR (aM rfl (aA rfl (aNn (aSR (aM rfl (aM rfl (aM rfl ?_)))))))))))
  refine aU rfl (fM 0 k el90 rfl rfl rfl rfl (by rw [List.length_map]; exact hk')) ?_
  refine aU rfl (eF 0 k 0 tk3 rfl rfl (aQ ha) rfl rfl) (aU rfl (jX hF rfl rfl (fun w S fp hst => (h a (List.mem_of_getElem? ha)).quiet1 (aF 0 rfl) hst)) (aNn ?_))
  refine al _ rfl (fun h2 => ?_) (fun h2 => ?_)
  ·skip
   exact absurd h2 (by decide)
  ·skip
   refine aq (bB (az (aj ?_)))
   refine aU rfl (bd rfl rfl (by omega)) ?_
   refine aM rfl (aNn ?_)
   refine ⟨[0, 1, 7, 8], [0], [0], rfl, ?_⟩
   exact ⟨k + 1, ⟨by omega, rfl⟩, by omega⟩
 ·skip
  refine aX (aY (aY (bf (az (aSR (aA rfl (aNn (aJ ?_))))))))
  refine br [] [0] rfl Tryz.results186 rfl ?_ (.inr rfl)
  exact ⟨rfl, rfl, rfl⟩
theorem yF (v : Value) (zs : List Int) (hz : zs.length ≤ 1000) (F : FuncId) (caps : List Value) (p : Per) (hF : e8 Tryz.prog F = true) (h : ∀ a ∈ zs, Con Tryz.prog F (eI a :: caps) [p] [] (fun r _ _ => r = .bool false)) : Con Tryz.prog 79 [v, .func (.func F) #[] caps.toArray] [p] [bg v 3 1 (zs.map gJ)]
   fun r ps hp => ps = [] ∧ hp = [bg v 3 1 (zs.map gJ)] ∧ r = v := by
 refine Con.enter Tryz.func79 rfl (by simp [Tryz.ntmps79]) ?_
 show awp _ _ _ _ ⟨[(0, true, _), (1, true, _)], _, _⟩
 refine aSR (aA rfl (aNn (aSR (aM rfl (aM rfl ?_)))))
 refine an (q := false) rfl (bH [0] [0] (by kernel_rfl) rfl rfl rfl rfl (xq v zs hz F caps p hF h) ?_)
 rintro _ _ _ ⟨rfl, rfl, rfl⟩
 refine aST ?_
 refine aA rfl (aNs (aSR (aM rfl (aU rfl (bx rfl rfl) (aNn ?_)))))
 refine al _ rfl (fun h1 => ?_) (fun h1 => ?_)
 ·skip
  refine aSR (aM rfl (aA rfl (aNn (aJ (aO ?_)))))
  refine br [] [0] rfl Tryz.results79 rfl ?_ (.inr rfl)
  exact ⟨rfl, rfl, rfl⟩
 ·skip
  exact absurd h1 (by decide)
theorem xF (b : Nat) (o : ax) (z : Int) (hz : 0 ≤ z ∧ z < o.secs.l.length) : Con Tryz.prog 81 [eI z, .pointer (some ⟨b, 0, none⟩)] [cA (At b 0 o.row) o.ok] [] (fun r _ _ => r = .bool false) := by
 refine Con.pre (ps := [At b 0 o.row, o.ok]) ?_ (rD aaJ.left aaJ.right)
 refine Con.enter Tryz.func81 rfl (by simp [Tryz.ntmps81]) ?_
 show awp _ _ _ _ ⟨[(0, true, _), (1, true, _)], _, _⟩
 refine bA (ax.f_secs (.of (aF 1 rfl))) (fun hlen => ?_)
 refine aSR (aA rfl (aNn (aSR (aM rfl (aU rfl (bw rfl rfl) (aM rfl (aG rfl rfl (fun hc => aD rfl) ?_)))))))
 refine aG rfl rfl (fun hc => qFA (off := 1) rfl) ?_
 refine aG rfl rfl (fun hc => aN (o := 1) tk50 (ae rfl hc) (.of (aF 0 rfl)) rfl) (aG rfl rfl (fun hc => aZ Tryz.underlying50 (ae rfl hc)) (aG rfl rfl (fun hc => eu (ae rfl hc) (ae rfl hc)) (aU rfl (bY rfl rfl (fun h => gf rfl h)) (aA rfl (aNn (aJ ?_))))))
 refine br [] [] rfl Tryz.results81 rfl ?_ (.inr rfl)
 simp; omega
theorem rz (o : ax) (g : du) (hl : g.secs.l.length ≤ 1000) (hz : ∀ z ∈ g.secs.l, 0 ≤ z ∧ z < o.secs.l.length) : Con Tryz.prog 32 [o.val, g.val] [ShF gJ g.secs, o.ok] [] fun r ps hp => hp = [] ∧ ∃ s : Sl Int, s.l = g.secs.l ∧ r = s.val ∧ ps = [ShF gJ s] := by
 refine Con.conv (R := fun r ps hp => ps = [] ∧ ∃ (ad : Option Addr) (c : Nat), r = .slice ad g.secs.l.length c ∧ hp = [bg (.slice ad g.secs.l.length c) 3 1 (g.secs.l.map gJ)]) ?_ fun _ _ _ ⟨h1, ad, c, h2, h3⟩ => ?_
 rotate_left
 · subst h1 h2 h3
   exact ⟨_, _, (StE.share 0 (ShF gJ ⟨ad, c, g.secs.l⟩) rfl fun _ _ _ h => eO h).trans (StE.keep [0] [] rfl), rfl, ⟨ad, c, g.secs.l⟩, rfl, rfl, rfl⟩
 refine Con.enter Tryz.func32 rfl (by simp [Tryz.ntmps32]) ?_
 show awp _ _ _ _ ⟨[(0, true, _), (1, true, _)], _, _⟩
 refine aSR ?_
 refine an (q := true) rfl (cx rfl rfl rfl (fun b0_0 => ?_))
 refine aHN ?_
 refine an (q := true) rfl (cx rfl rfl rfl (fun b0_1 => ?_))
 refine aHN ?_
 refine aA rfl (aNs (cX 0 rfl rfl ?_))
 show awp _ _ _ _ ⟨_, At _ 0 _ :: _, _⟩
 refine aj ?_
 refine aU rfl (qFA (off := 1) rfl) ?_
 refine aU rfl (ah 1 tk90 rfl rfl rfl) ?_
 refine an (q := true) rfl (bH [1] [] (by kernel_rfl) rfl rfl rfl rfl (oA g.secs (by omega)) ?_)
 rintro _ _ _ ⟨rfl, ad, cc, rfl, rfl⟩
 refine aST ?_
 refine aU rfl (im (l := [.tmp 2]) rfl) ?_
 refine an (q := false) rfl (bH [2, 0] [2] (by kernel_rfl) rfl rfl rfl rfl ((yF (.slice ad g.secs.l.length cc) g.secs.l hl 81 [.pointer (some ⟨b0_0, 0, none⟩)] (cA (At b0_0 0 o.row) o.ok) (by kernel_rfl) (fun z hz2 => xF b0_0 o z (hz z hz2))).pre (fun p hp => (List.mem_singleton.1 hp) ▸ .mk2 (.of (aF 0 rfl)) (.of (aF 1 rfl)))) ?_)
 rintro _ _ _ ⟨rfl, rfl, rfl⟩
 refine aST ?_
 refine aA rfl (aNn (aJ ?_))
 refine br [] [2] rfl Tryz.results32 rfl ?_ (.inr rfl)
 exact ⟨rfl, ad, cc, rfl, rfl⟩
end Go.Proofs.YtgmiihmahaahiaaGreatDoor

namespace Go.Proofs.YtgmiihmahaahiaaGreatDoor
open Go.RowKit Go.Lp Go.Sy
open Go.Proofs.Tryz
attribute [local irreducible] aL aB awp aC fwp
abbrev gR : ByteArray → List D := fun s => [.v (.string s)]
theorem oa (a b : Sl ByteArray) : Con Tryz.prog 83 [a.val, b.val] [ShF gR a, ShF gR b] [] (YB True) := by
 refine Con.enter Tryz.func83 rfl (by simp [Tryz.ntmps83]) ?_
 show awp _ _ _ _ ⟨[(0, true, _), (1, true, _)], _, _⟩
 refine bA (.of (aF 0 rfl)) (fun hlen => ?_)
 refine bA (.of (aF 1 rfl)) (fun hlen2 => ?_)
 refine aSR (aA rfl (aNs (aSR (aM rfl (aU rfl (aZ Tryz.underlying77 rfl) (aM rfl (aU rfl (aZ Tryz.underlying77 rfl) (aU rfl (dB rfl rfl) (aNn ?_)))))))))
 refine al _ rfl (fun h1 => ?_) (fun h1 => ?_)
 ·skip
  refine aSR (aA rfl (aNn (aJ (aO ?_))))
  refine br [] [] rfl Tryz.results83 rfl ?_ (.inr rfl)
  exact ⟨⟨rfl, rfl⟩, _, rfl, fun _ => trivial⟩
 ·skip
  have hab : a.l.length = b.l.length := by simp at h1; omega
  refine aq (az (aH (aSR (aM rfl (aU rfl (aZ Tryz.underlying77 rfl) (aM rfl ?_))))))
  refine aNn (aI (aT [0, 1, 11, 12, 13] [1, 0] [] (fun (k : Nat) s => k ≤ a.l.length ∧ s = ⟨[(0, true, a.val), (1, true, b.val), (11, true, a.val), (12, true, .int .i64 a.l.length), (13, true, .int .i64 k)], [ShF gR a, ShF gR b], []⟩) (fun k => a.l.length - k) rfl (⟨0, Nat.zero_le _, rfl⟩) ?_))
  rintro k s ⟨hk, rfl⟩
  refine aSR (aU rfl (bw rfl rfl) (aNs ?_))
  refine al _ rfl (fun h2 => ?_) (fun h2 => ?_)
  ·skip
   have hk' : k < a.l.length := by simpa using h2
   obtain ⟨x, hx⟩ : ∃ x, a.l[k]? = some x := ⟨_, List.getElem?_eq_getElem hk'⟩
   obtain ⟨y, hy⟩ : ∃ y, b.l[k]? = some y := ⟨_, List.getElem?_eq_getElem (by omega)⟩
   refine aq (az (aH (aI (aSR (aM rfl (aA rfl (aNs ?_)))))))
   refine bp [] (by kernel_rfl) ?_
   show aB _ _ _ _ _ 9 #[false, false, false, false, false, false, false, false, false] _
   refine bV 0 rfl rfl (aD rfl) ?_
   refine bV 1 rfl rfl (aD rfl) ?_
   refine dC 2 rfl (by kernel_rfl) true rfl rfl (fun _ => av Tryz.underlying77 tk9 rfl ((.of (aF 0 rfl))) rfl (aQ hx) rfl rfl) (fun h => absurd h (by decide)) (fun ⟨b6_2, o6_2⟩ => ?_)
   refine bV 3 rfl rfl (aP (o := 0) tk9 rfl (aF 0 rfl) rfl rfl) ?_
   refine bV 4 rfl rfl (aD rfl) ?_
   refine bV 5 rfl rfl (aD rfl) ?_
   refine dC 6 rfl (by kernel_rfl) true rfl rfl (fun _ => av Tryz.underlying77 tk9 rfl ((.of (aF 2 rfl))) rfl (aQ hy) rfl rfl) (fun h => absurd h (by decide)) (fun ⟨b6_6, o6_6⟩ => ?_)
   refine bV 7 rfl rfl (aP (o := 0) tk9 rfl (aF 0 rfl) rfl rfl) ?_
   refine bV 8 rfl rfl (yX rfl rfl) ?_
   refine bO (by kernel_rfl) ?_
   refine az ?_
   refine al _ rfl (fun h3 => ?_) (fun h3 => ?_)
   ·skip
    refine aSR (aA rfl (aNn (aJ (bu (aO (aO (bu (aO ?_))))))))
    refine br [] [] rfl Tryz.results83 rfl ?_ (.inr rfl)
    exact ⟨⟨rfl, rfl⟩, _, rfl, fun _ => trivial⟩
   ·skip
    refine aq (bB (az (aj ?_)))
    refine aU rfl (bd rfl rfl (by omega)) ?_
    refine aM rfl (aNn ?_)
    refine ⟨[0, 1, 11, 12, 13], [1, 0], [], rfl, ?_⟩
    exact ⟨k + 1, ⟨by omega, rfl⟩, by omega⟩
  ·skip
   refine aX (aY (aY (bf (az (aSR (aA rfl (aNn (aJ ?_))))))))
   refine br [] [] rfl Tryz.results83 rfl ?_ (.inr rfl)
   exact ⟨⟨rfl, rfl⟩, _, rfl, fun _ => trivial⟩
structure Cp where
 obj : Int
 nm : Sl ByteArray
 fm : Sl ByteArray
 deriving Inhabited
abbrev Cp.val (c : Cp) : Value := .agg #[.int .i64 c.obj, .slice c.nm.ad c.nm.l.length c.nm.cap, .slice c.fm.ad c.fm.l.length c.fm.cap]
abbrev Cp.vs (c : Cp) : List Value := [.int .i64 c.obj, .slice c.nm.ad c.nm.l.length c.nm.cap, .slice c.fm.ad c.fm.l.length c.fm.cap]
def Cp.ok (c : Cp) : Per := cA (ShF gR c.nm) (ShF gR c.fm)
theorem xi (a b : Cp) : Con Tryz.prog 34 [a.val, b.val] [a.ok, b.ok] [] (YB True) := by
 refine Con.enter Tryz.func34 rfl (by simp [Tryz.ntmps34]) ?_
 show awp _ _ _ _ ⟨[(0, true, _), (1, true, _)], _, _⟩
 refine aSR ?_
 refine an (q := true) rfl (cx rfl rfl rfl (fun b0_0 => ?_))
 refine aHN ?_
 refine an (q := true) rfl (cx rfl rfl rfl (fun b0_1 => ?_))
 refine aHN ?_
 refine aA rfl (aNn (aSR ?_))
 refine aU rfl (qFA (off := 1) rfl) ?_
 refine aU rfl (ah 0 tk77 rfl rfl rfl) ?_
 refine aU rfl (qFA (off := 1) rfl) ?_
 refine aU rfl (ah 1 tk77 rfl rfl rfl) ?_
 refine bT (caps := []) [1, 0] (false) (by kernel_rfl) true rfl rfl (fun _ => rfl) (fun hc => rfl) (fun hc => by rw [List.append_nil]; exact (oa a.nm b.nm).pre (rD (Ent.left (p := ShF gR a.nm) (q := ShF gR a.fm) (.of (aF 0 rfl))) (Ent.left (p := ShF gR b.nm) (q := ShF gR b.fm) (.of (aF 1 rfl))))) (fun c1 hc1 => ?_)
 refine aM rfl ?_
 refine aG rfl rfl (fun hc => qFA (off := 2) rfl) ?_
 refine aG rfl rfl (fun hc => ah 0 tk77 (ae rfl hc) rfl rfl) ?_
 refine aG rfl rfl (fun hc => qFA (off := 2) rfl) ?_
 refine aG rfl rfl (fun hc => ah 1 tk77 (ae rfl hc) rfl rfl) ?_
 refine bT (caps := []) [1, 0] (false) (by kernel_rfl) _ rfl rfl (fun _ => rfl) (fun hc => (aS (ae rfl hc) (aS (ae rfl hc) rfl))) (fun hc => by rw [List.append_nil]; exact (oa a.fm b.fm).pre (rD (Ent.right (p := ShF gR a.nm) (q := ShF gR a.fm) (.of (aF 0 rfl))) (Ent.right (p := ShF gR b.nm) (q := ShF gR b.fm) (.of (aF 1 rfl))))) (fun c2 hc2 => ?_)
 refine aU rfl (bJ rfl rfl (fun h => gt rfl h)) (aA rfl (aNn (aJ ?_)))
 refine br [] [] rfl Tryz.results34 rfl ?_ (.inr rfl)
 exact ⟨⟨rfl, rfl⟩, _, rfl, fun _ => trivial⟩
theorem yx (os : Sl ax) (i : Nat) (hi : i < os.l.length) (hb : ∀ s ∈ (elt os.l (i : Int)).secs.l, s.bytes.size ≤ 1048576) (s : Sl Int) (hl : s.l.length ≤ 1000) (hz : ∀ z ∈ s.l, 0 ≤ z ∧ z < (elt os.l (i : Int)).secs.l.length) :
   Con Tryz.prog 33 [os.val, .int .i64 i, s.val] [ShF gJ s, dG, dF, ShF ax.row os, cv ax.ok os.l] [] fun r ps hp => hp = [] ∧ ∃ c : Cp, r = c.val ∧ ps = [c.ok] := by
 have ho := bM hi
 generalize hoo : elt os.l (i : Int) = o at ho hb hz
 refine Con.conv (R := fun r ps hp => ps = [] ∧ ∃ (na : Option Addr) (nc : Nat) (nm : List ByteArray) (fa : Option Addr) (fc : Nat) (fm : List ByteArray), r = .agg #[.int .i64 i, .slice na nm.length nc, .slice fa fm.length fc] ∧ hp = [bg (.slice na nm.length nc) 9 1 (nm.map gR), bg (.slice fa fm.length fc) 9 1 (fm.map gR)]) ?_ fun _ _ _ ⟨h1, na, nc, nm, fa, fc, fm, h2, h3⟩ => ?_
 rotate_left
 · subst h1 h2 h3
   refine ⟨_, _, (StE.share 0 (ShF gR ⟨na, nc, nm⟩) rfl fun _ _ _ h => eO h).trans ((StE.share 1 (ShF gR ⟨fa, fc, fm⟩) rfl fun _ _ _ h => eO h).trans ((StE.keep [0, 1] [] rfl).trans (StE.ents (ps' := [(⟨i, ⟨na, nc, nm⟩, ⟨fa, fc, fm⟩⟩ : Cp).ok]) fun p hp => ?_))), rfl, ⟨i, ⟨na, nc, nm⟩, ⟨fa, fc, fm⟩⟩, rfl, rfl⟩
   rw [List.mem_singleton.1 hp]
   exact .mk2 (.of (aF 0 rfl)) (.of (aF 1 rfl))
 refine Con.enter Tryz.func33 rfl (by simp [Tryz.ntmps33]) ?_
 show awp _ _ _ _ ⟨[(0, true, _), (1, true, _), (2, true, _)], _, _⟩
 refine bA (.of (aF 0 rfl)) (fun hlen => ?_)
 refine aSR ?_
 refine an (q := true) rfl (bc (zs := [.int .i64 0, .slice none 0 0, .slice none 0 0]) (by kernel_rfl) rfl (fun b0_0 => ?_))
 refine aHN ?_
 refine aNn (aSR (aM rfl ?_))
 refine aU rfl (dz (l := [(0, .tmp 10)]) (zs := [.int .i64 0, .slice none 0 0, .slice none 0 0]) (pl := [(0, 1), (1, 1), (2, 1)]) (by kernel_rfl) (by kernel_rfl) (by kernel_rfl) rfl rfl rfl) ?_
 refine an (q := true) rfl (bc (zs := [.int .i64 0, .slice none 0 0, .slice none 0 0]) (by kernel_rfl) rfl (fun b1_2 => ?_))
 refine aHN ?_
 refine an rfl (aV 1 tk95 rfl rfl rfl rfl ?_)
 refine aHK ?_
 refine aNs (aH ?_)
 refine eD 9 1 (eD 9 1 ?_)
 show awp _ _ _ _ ⟨_, _, [_, _, _, _]⟩
 refine aj (aM rfl (aU rfl (aZ Tryz.underlying90 rfl) (aM rfl (aNn (aI (aT [0, 1, 6, 7, 12, 13, 14] [4, 3, 2, 1, 0] [0, 1, 2, 3] (fun (q : Nat × ((Value × List ByteArray) × (Value × List ByteArray))) st => (q.1 ≤ s.l.length ∧ q.2.1.2.length = q.1 ∧ q.2.2.2.length = q.1) ∧ st = ⟨[(0, true, os.val), (1, true, .int .i64 i), (6, true, .pointer (some ⟨b0_0, 0, none⟩)), (7, true, .pointer (some ⟨b1_2, 0, none⟩)), (12, true, s.val), (13, true, .int .i64 s.l.length), (14, true, .int .i64 q.1)], [ShF gJ s, dG, dF, ShF ax.row os, cv ax.ok os.l], [Box b0_0 95 [.int .i64 0, .slice none 0 0, .slice none 0 0], Box b1_2 95 [.int .i64 i, q.2.1.1, q.2.2.1], bg q.2.1.1 9 1 (q.2.1.2.map gR), bg q.2.2.1 9 1 (q.2.2.2.map gR)]⟩) (fun q => s.l.length - q.1) rfl (⟨(0, ((.slice none 0 0, []), (.slice none 0 0, []))), ⟨Nat.zero_le _, rfl, rfl⟩, rfl⟩) ?_))))))
 rintro ⟨k, ⟨nv, nm⟩, ⟨fv, fm⟩⟩ st ⟨⟨hk, hn, hf⟩, rfl⟩
 dsimp only at hk hn hf ⊢
 refine aSR (aU rfl (bw rfl rfl) (aNs ?_))
 refine al _ rfl (fun h1 => ?_) (fun h1 => ?_)
 ·skip
  have hk' : k < s.l.length := by simpa using h1
  obtain ⟨z, hzk⟩ : ∃ z, s.l[k]? = some z := ⟨_, List.getElem?_eq_getElem hk'⟩
  have hzr := hz z (List.mem_of_getElem? hzk)
  refine aq (az (aH (aI (aSR ?_))))
  refine cJ true rfl rfl (fun _ => av Tryz.underlying90 tk3 rfl ((.of (aF 0 rfl))) rfl (aQ hzk) rfl rfl) (fun h => absurd h (by decide)) (fun ⟨b4_0, o4_0⟩ => ?_)
  refine aU rfl (aP (o := 0) tk3 rfl (aF 0 rfl) rfl rfl) (aA rfl (aNs ?_))
  refine cP [12, 14] [14] [b1_2] (by kernel_rfl) ?_
  show aC _ _ _ _ _ _ _ 15 #[false, false, false, false, false, false, false, false, false, false, false, false, false, false, false] _
  refine bt 0 rfl (by kernel_rfl) true rfl rfl (fun _ => qFA (off := 1) rfl) ?_
  refine db 1 1 rfl (by kernel_rfl) true rfl rfl (by simp) tk77 (fun _ => rfl) rfl rfl ?_
  refine bt 2 rfl (by kernel_rfl) true rfl rfl (fun _ => aD rfl) ?_
  refine bt 3 rfl (by kernel_rfl) true rfl rfl (fun _ => aD rfl) ?_
  refine jo 4 rfl (by kernel_rfl) rfl rfl (cD Tryz.underlying22 tk61 rfl ((.of (aF 4 rfl))) rfl (aQ ho) rfl rfl) (fun ⟨b5_4, o5_4⟩ => ?_)
  refine bt 5 rfl (by kernel_rfl) true rfl rfl (fun _ => qFA (off := 1) rfl) ?_
  refine bt 6 rfl (by kernel_rfl) true rfl rfl (fun _ => aN (o := 1) tk50 rfl (.of (aF 0 rfl)) rfl) ?_
  refine bt 7 rfl (by kernel_rfl) true rfl rfl (fun _ => aD rfl) ?_
  refine jo 8 rfl (by kernel_rfl) rfl rfl (cD Tryz.underlying50 tk85 rfl ((ax.f_secs (Ent.all (.of (aF 6 rfl)) ho))) rfl (bI (i := z) hzr.2 hzr.1) (by omega) rfl) (fun ⟨b5_8, o5_8⟩ => ?_)
  refine bt 9 rfl (by kernel_rfl) true rfl rfl (fun _ => qFA (off := 0) rfl) ?_
  refine bt 10 rfl (by kernel_rfl) true rfl rfl (fun _ => aN (o := 0) tk9 rfl (.of (aF 0 rfl)) rfl) ?_
  refine cq 11 [] (by kernel_rfl) (bL ?_ bX)
  refine cR 11 rfl rfl (Eff.x ?_)
  refine id (cB (zs := [.string .empty]) (l := [(0, .tmp 28)]) el77 (by kernel_rfl) (by decide) (by decide) (by decide) rfl rfl rfl (.more rfl (.v rfl .nil) .nil) rfl rfl (fun v5_11 => ?_))
  refine dD (by (try simp only [nO, nK, nL]); rfl) (by (try simp only [nM, nN]); rfl) (by (try simp only [bK, nQ, nR, dp, place, Nat.reduceBEq, if_true, if_false, reduceIte, Nat.reduceAdd, nW]); rfl) ?_
  refine cq 12 [] (by kernel_rfl) (bL ?_ bX)
  refine cR 12 rfl rfl (Eff.framed (q := false) [2, 4] rfl rfl (jq 1 rfl rfl qN) ?_)
  refine id (cL 0 el77 rfl rfl rfl rfl (dR 1 el77 rfl (by simp)) (by first | assumption | simp) (by show (nm.map gR).length + 1 ≤ _; rw [List.length_map]; exact Nat.le_trans (show nm.length + 1 ≤ 1001 by omega) (by decide)) ((nm ++ [(elt o.secs.l z).name]).length) (by show (nm.map gR).length + 1 = _; rw [List.length_map, List.length_append]; rfl) (fun v5_12 c5_12 => ?_))
  refine kQ ?_
  refine dD (by (try simp only [nO, nK, nL]); rfl) (by (try simp only [nM, nN]); rfl) (by (try simp only [bK, nQ, nR, dp, place, Nat.reduceBEq, if_true, if_false, reduceIte, Nat.reduceAdd, nW]); rfl) ?_
  refine bt 13 rfl (by kernel_rfl) true rfl rfl (fun _ => qFA (off := 1) rfl) ?_
  refine cq 14 [] (by kernel_rfl) (bL ?_ bX)
  refine cR 14 rfl rfl (Eff.wild (q := false) ?_)
  refine id (aV 1 tk77 rfl rfl rfl rfl ?_)
  refine dD (by (try simp only [nO, nK, nL]); rfl) (by (try simp only [nM, nN]); rfl) (by (try simp only [bK, nQ, nR, dp, place, Nat.reduceBEq, if_true, if_false, reduceIte, Nat.reduceAdd, nW]); rfl) ?_
  refine eN (by kernel_rfl) ?_
  refine az ?_
  refine cP [9, 11] [11] [b1_2] (by kernel_rfl) ?_
  show aC _ _ _ _ _ _ _ 12 #[false, false, false, false, false, false, false, false, false, false, false, false] _
  refine bt 0 rfl (by kernel_rfl) true rfl rfl (fun _ => qFA (off := 2) rfl) ?_
  refine db 1 1 rfl (by kernel_rfl) true rfl rfl (by simp) tk77 (fun _ => rfl) rfl rfl ?_
  refine bt 2 rfl (by kernel_rfl) true rfl rfl (fun _ => aD rfl) ?_
  refine bt 3 rfl (by kernel_rfl) true rfl rfl (fun _ => aD rfl) ?_
  refine jo 4 rfl (by kernel_rfl) rfl rfl (cD Tryz.underlying22 tk61 rfl ((.of (aF 6 rfl))) rfl (aQ ho) rfl rfl) (fun ⟨b6_4, o6_4⟩ => ?_)
  refine bt 5 rfl (by kernel_rfl) true rfl rfl (fun _ => aN (o := 0) tk61 rfl (.of (aF 0 rfl)) rfl) ?_
  refine bt 6 rfl (by kernel_rfl) true rfl rfl (fun _ => aD rfl) ?_
  refine cq 7 [] (by kernel_rfl) (bL ?_ bX)
  refine cR 7 rfl rfl (Eff.x ?_)
  refine id (bH [3, 2, 0] [] (by kernel_rfl) rfl rfl rfl rfl ((zB o hb z).pre (acA (.of (aF 0 rfl)) (.of (aF 1 rfl)) (Ent.all (.of (aF 2 rfl)) ho))) ?_)
  rintro _ _ _ ⟨rfl, rfl, t, rfl⟩
  refine dD (by (try simp only [nO, nK, nL]); rfl) (by (try simp only [nM, nN]); rfl) (by (try simp only [bK, nQ, nR, dp, place, Nat.reduceBEq, if_true, if_false, reduceIte, Nat.reduceAdd, nW]); rfl) ?_
  refine cq 8 [] (by kernel_rfl) (bL ?_ bX)
  refine cR 8 rfl rfl (Eff.x ?_)
  refine id (cB (zs := [.string .empty]) (l := [(0, .tmp 39)]) el77 (by kernel_rfl) (by decide) (by decide) (by decide) rfl rfl rfl (.more rfl (.v rfl .nil) .nil) rfl rfl (fun v6_8 => ?_))
  refine dD (by (try simp only [nO, nK, nL]); rfl) (by (try simp only [nM, nN]); rfl) (by (try simp only [bK, nQ, nR, dp, place, Nat.reduceBEq, if_true, if_false, reduceIte, Nat.reduceAdd, nW]); rfl) ?_
  refine cq 9 [] (by kernel_rfl) (bL ?_ bX)
  refine cR 9 rfl rfl (Eff.framed (q := false) [3, 5] rfl rfl (jq 1 rfl rfl qN) ?_)
  refine id (cL 0 el77 rfl rfl rfl rfl (dR 1 el77 rfl (by simp)) (by first | assumption | simp) (by show (fm.map gR).length + 1 ≤ _; rw [List.length_map]; exact Nat.le_trans (show fm.length + 1 ≤ 1001 by omega) (by decide)) ((fm ++ [t]).length) (by show (fm.map gR).length + 1 = _; rw [List.length_map, List.length_append]; rfl) (fun v6_9 c6_9 => ?_))
  refine kQ ?_
  refine dD (by (try simp only [nO, nK, nL]); rfl) (by (try simp only [nM, nN]); rfl) (by (try simp only [bK, nQ, nR, dp, place, Nat.reduceBEq, if_true, if_false, reduceIte, Nat.reduceAdd, nW]); rfl) ?_
  refine bt 10 rfl (by kernel_rfl) true rfl rfl (fun _ => qFA (off := 2) rfl) ?_
  refine cq 11 [] (by kernel_rfl) (bL ?_ bX)
  refine cR 11 rfl rfl (Eff.wild (q := false) ?_)
  refine id (aV 1 tk77 rfl rfl rfl rfl ?_)
  refine dD (by (try simp only [nO, nK, nL]); rfl) (by (try simp only [nM, nN]); rfl) (by (try simp only [bK, nQ, nR, dp, place, Nat.reduceBEq, if_true, if_false, reduceIte, Nat.reduceAdd, nW]); rfl) ?_
  refine eN (by kernel_rfl) ?_
  refine bB (az (aj ?_))
  refine aU rfl (bd rfl rfl (by omega)) ?_
  refine aM rfl (aNn ?_)
  refine ⟨[0, 1, 6, 7, 12, 13, 14], [4, 3, 2, 1, 0], [0, 1, 2, 3], rfl, ?_⟩
  exact ⟨(k + 1, ((_, nm ++ [(elt o.secs.l z).name]), (_, fm ++ [t]))), ⟨⟨by dsimp only; omega, by dsimp only; rw [List.length_append]; simp; omega, by dsimp only; rw [List.length_append]; simp; omega⟩, by dsimp only; rw [List.map_append, List.map_append]; rfl⟩, by dsimp only; omega⟩
 ·skip
  refine aX (aY (aY (bf (az (aH ?_)))))
  refine iv 2 rfl (fun na nc hv => ?_)
  refine iv 3 rfl (fun fa fc hv2 => ?_)
  rw [List.length_map] at hv hv2
  subst hv hv2
  refine aj (aU rfl (ah 1 tk95 rfl rfl rfl) ?_)
  refine an rfl (aV 0 tk95 rfl rfl rfl rfl ?_)
  refine aHK ?_
  refine aNn (aJ ?_)
  refine nV [] [2, 3] rfl Tryz.results33 (cV 0 tk95 rfl rfl rfl) ?_ (.inr rfl)
  exact ⟨rfl, na, nc, nm, fa, fc, fm, rfl, rfl⟩
end Go.Proofs.YtgmiihmahaahiaaGreatDoor

namespace Go.Proofs
open Go.Shelf
def Tryz.lays212_ren : Go.Shelf.Ren := ⟨fun | 212 => 78 | 263 => 184 | 264 => 185 | n => n, fun | 46 => 147 | 51 => 272 | 146 => 273 | 53 => 275 | 148 => 276 | n => n, fun | n => n⟩
theorem Tryz.lays212 : Go.Proofs.Lays.n212 Tryz.prog Tryz.lays212_ren := {
 mixed := by kernel_rfl
 f212 := Tryz.func78.trans (congrArg some (by kernel_rfl))
 f263 := Tryz.func184.trans (congrArg some (by kernel_rfl))
 f264 := Tryz.func185.trans (congrArg some (by kernel_rfl))
 t46 := Tryz.underlying147
 a46 := Tryz.isAgg147
 z46 := Tryz.sizeOf147
 v46 := Tryz.zeroValue147
 t51 := Tryz.underlying272
 a51 := Tryz.isAgg272
 z51 := Tryz.sizeOf272
 v51 := Tryz.zeroValue272
 t53 := Tryz.underlying275
 a53 := Tryz.isAgg275
 z53 := Tryz.sizeOf275
 v53 := Tryz.zeroValue275
 t146 := Tryz.underlying273
 a146 := Tryz.isAgg273
 z146 := Tryz.sizeOf273
 v146 := Tryz.zeroValue273
 t148 := Tryz.underlying276
 a148 := Tryz.isAgg276
 z148 := Tryz.sizeOf276
 v148 := Tryz.zeroValue276 }
end Go.Proofs

namespace Go.Proofs.YtgmiihmahaahiaaGreatDoor
open Go.RowKit Go.Lp Go.Sy
open Go.Proofs.Tryz
attribute [local irreducible] aL aB awp aC fwp
theorem acx (N : Nat) (hN : N ≤ 1000000) (w : World) : Calls Tryz.prog 78 #[.int .u64 (IntKind.u64.wrap 1), .int .u64 (IntKind.u64.wrap (N : Int))] w fun e w' => e = .returned (.tuple #[.int .u64 0, .int .u64 N]) ∧ Go.Sy.Below w.heap.size w w' := by
 have h := Any.bits_Mul Tryz.lays212 1 N (by omega) (by omega) w
 have e1 : IntKind.u64.wrap 1 = 1 := by decide
 have e2 : IntKind.u64.wrap (N : Int) = N := by rw [IntKind.wrap_u64]; omega
 rw [e1, e2]
 refine h.mono fun e w' ⟨h1, h2⟩ => ⟨?_, by rw [h2]; exact Go.Sy.Below.refl _ _⟩
 rw [h1]
 have e3 : 1 * N / 18446744073709551616 = 0 := by omega
 have e4 : 1 * N % 18446744073709551616 = N := by omega
 rw [e3, e4]; rfl
theorem abS (N : Nat) (hN : N ≤ 1000000) : IntKind.i64.wrap (N : Int) = N := by rw [IntKind.wrap_i64]; omega
def iB (N k : Nat) (v : Bool) : List Bool := List.replicate k v ++ List.replicate (N - k) false
theorem qc {N k : Nat} (v : Bool) (h : k ≤ N) : (iB N k v).length = N := by simp [iB]; omega
theorem uJ {N k j : Nat} (v : Bool) (hj : j ≤ k) (h : k + j ≤ N) : (iB N k v).take k ++ (iB N k v).take j ++ (iB N k v).drop (k + j) = iB N (k + j) v := by
 unfold iB
 rw [List.take_append_of_le_length (by simp), List.take_append_of_le_length (by simpa using hj), List.drop_append, List.drop_of_length_le (by simp)]
 simp only [List.take_replicate, List.drop_replicate, List.length_replicate, List.nil_append, Nat.min_self, Nat.min_eq_left hj]
 rw [List.replicate_append_replicate]
 congr 2; omega
theorem x3 {ad : Option Addr} {c : Nat} (v : Bool) : Con Tryz.prog 31 [.slice ad 1 c, .int .i64 ((0 : Nat) : Int)] [Sh (.slice ad 1 c) (.sl (bS Value.bool [v]))] [] fun r ps hp => ps = [] ∧ hp = [bg r 4 1 (bS Value.bool [])] := by
 refine Con.enter Tryz.func31 rfl (by simp [Tryz.ntmps31]) ?_
 show awp _ _ _ _ ⟨[(0, true, _), (1, true, _)], _, _⟩
 refine aSR (aA rfl (aNs (aSR (aM rfl (aU rfl (bw rfl rfl) (aNn ?_))))))
 refine al _ rfl (fun h1 => ?_) (fun h1 => ?_)
 ·skip
  exact absurd h1 (by simp)
 ·skip
  refine aq (az (aSR (aM rfl (aU rfl (aZ Tryz.underlying68 rfl) ?_))))
  refine aU rfl (dh (by kernel_rfl) Tryz.underlying147 rfl) ?_
  refine aM rfl ?_
  refine aU rfl (dh (by kernel_rfl) Tryz.underlying147 rfl) ?_
  refine aU rfl (bC (by kernel_rfl) rfl (fun w S fp hst => acx 0 (by omega) w)) ?_
  refine aM rfl (aU rfl (bD rfl rfl) (aU rfl (bD rfl rfl) (aA rfl (aA rfl (aNs (aSR (aM rfl (aU rfl (cN rfl rfl) (aM rfl (aG rfl rfl (fun hc => aD rfl) (aG rfl rfl (fun hc => cN (ae rfl hc) rfl) (aU rfl (bY rfl rfl (fun h => gf rfl h)) (aNn ?_)))))))))))))
  refine al _ rfl (fun h2 => ?_) (fun h2 => ?_)
  ·skip
   exact absurd h2 (by decide)
  ·skip
   refine aq (az (aSR (aM rfl ?_)))
   refine aU rfl (dh (by kernel_rfl) Tryz.underlying3 rfl) ?_
   refine an (q := true) rfl (iC (m := 0) (zs := [.bool false]) el68 (by kernel_rfl) rfl (by decide) (eJ rfl (rfl)) (eJ rfl (rfl)) (by omega) rfl (fun v6_2 => ?_))
   refine aHN ?_
   refine aA rfl (aNn (aSR (aM rfl (aM rfl (aU rfl (wG el68 rfl rfl) ?_)))))
   refine aA rfl (aNs (aI (aT [7, 8] [] [0] (fun (k : Nat) s => s = ⟨[(7, true, .slice v6_2 0 0), (8, true, .int .i64 0)], [], [bg (.slice v6_2 0 0) 4 1 (bS Value.bool [])]⟩) (fun k => k) rfl (⟨0, rfl⟩) ?_)))
   rintro k s rfl
   refine aH (aSR (aM rfl (aM rfl (aU rfl (kK 0 Tryz.underlying68 rfl rfl) (aU rfl (bw rfl rfl) (aNn ?_))))))
   refine al _ rfl (fun h3 => ?_) (fun h3 => ?_)
   ·skip
    exact absurd h3 (by decide)
   ·skip
    refine aX (aY (aY (bf (az (aSR (aM rfl (aA rfl (aNn (aJ ?_)))))))))
    refine br [] [0] rfl Tryz.results31 rfl ?_ (.inr rfl)
    exact ⟨rfl, rfl⟩
theorem xU {ad : Option Addr} {c : Nat} (v : Bool) (N : Nat) (hN : N ≤ 1000000) (h0 : 0 < N) : Con Tryz.prog 31 [.slice ad 1 c, .int .i64 N] [Sh (.slice ad 1 c) (.sl (bS Value.bool [v]))] [] fun r ps hp => ps = [] ∧ hp = [bg r 4 1 (bS Value.bool (List.replicate N v))] := by
 refine Con.enter Tryz.func31 rfl (by simp [Tryz.ntmps31]) ?_
 show awp _ _ _ _ ⟨[(0, true, _), (1, true, _)], _, _⟩
 refine aSR (aA rfl (aNs (aSR (aM rfl (aU rfl (bw rfl rfl) (aNn ?_))))))
 refine al _ rfl (fun h1 => ?_) (fun h1 => ?_)
 ·skip
  exact absurd h1 (by simp)
 ·skip
  refine aq (az (aSR (aM rfl (aU rfl (aZ Tryz.underlying68 rfl) ?_))))
  refine aU rfl (dh (by kernel_rfl) Tryz.underlying147 rfl) ?_
  refine aM rfl ?_
  refine aU rfl (dh (by kernel_rfl) Tryz.underlying147 rfl) ?_
  refine aU rfl (bC (by kernel_rfl) rfl (fun w S fp hst => acx N hN w)) ?_
  refine aM rfl (aU rfl (bD rfl rfl) (aU rfl (bD rfl rfl) (aA rfl (aA rfl (aNs (aSR (aM rfl (aU rfl (cN rfl rfl) (aM rfl (aG rfl rfl (fun hc => aD rfl) (aG rfl rfl (fun hc => cN (ae rfl hc) rfl) (aU rfl (bY rfl rfl (fun h => gf rfl h)) (aNn ?_)))))))))))))
  refine al _ rfl (fun h2 => ?_) (fun h2 => ?_)
  ·skip
   exact absurd h2 (by simp; omega)
  ·skip
   refine aq (az (aH ?_))
   have hw := abS N hN
   refine aj (aM rfl ?_)
   refine aU rfl (dh (by kernel_rfl) Tryz.underlying3 rfl) ?_
   refine an (q := true) rfl (iC (m := N) (zs := [.bool false]) el68 (by kernel_rfl) rfl (by decide) (eJ rfl (hw)) (eJ rfl (hw)) (by omega) rfl (fun v6_2 => ?_))
   refine aHN ?_
   refine aA rfl (aNs ?_)
   refine nq (hp' := [bg (.slice v6_2 N N) 4 1 (bS Value.bool (List.replicate N false))]) (by simp [bS]) ?_
   refine lY 0 rfl (by simp [bS]; omega) (fun B cp hvo hcp => ?_)
   obtain ⟨rfl, rfl⟩ : v6_2 = some ⟨B, 0, none⟩ ∧ N = cp := by simp at hvo; exact ⟨hvo.1, hvo.2.2⟩
   refine aj (aM rfl (aM rfl ?_))
   refine an (q := false) rfl (wO (zs := List.replicate N false) (xs := [v]) 0 el68 (fun _ => rfl) rfl rfl rfl rfl (by simp) (aF 0 rfl) (by simp) (by simp; omega) (by simp; omega) (iB N 1 v) (by simp [iB]) rfl ?_)
   refine aA rfl (aNs (aI ?_))
   refine aT [7, 8] [] [0] (fun (k : Nat) s => (1 ≤ k ∧ k ≤ N) ∧ s = ⟨[(7, true, .slice (some ⟨B, 0, none⟩) N N), (8, true, .int .i64 k)], [], [bg (.slice (some ⟨B, 0, none⟩) N N) 4 1 (bS Value.bool (iB N k v))]⟩) (fun k => N - k) rfl (⟨1, ⟨by omega, by omega⟩, rfl⟩) ?_
   rintro k s ⟨⟨hk1, hk2⟩, rfl⟩
   refine aH (aSR (aM rfl (aM rfl (aU rfl (aZ Tryz.underlying68 rfl) (aU rfl (bw rfl rfl) (aNn ?_))))))
   refine al _ rfl (fun h3 => ?_) (fun h3 => ?_)
   ·skip
    have hkN : k < N := by simp at h3; omega
    obtain ⟨j, hj⟩ : ∃ j, j = min k (N - k) := ⟨_, rfl⟩
    refine aq (az (aI ?_))
    refine bp [7] (by kernel_rfl) ?_
    show aB _ _ _ _ _ 10 #[false, false, false, false, false, false, false, false, false, false] _
    refine tJ 0 rfl (by kernel_rfl) true rfl rfl (fun _ => aD rfl) ?_
    refine bV 1 rfl rfl (aD rfl) ?_
    refine bV 2 rfl rfl (aD rfl) ?_
    refine bV 3 rfl rfl (lQ k (N - k) k el68 rfl rfl rfl hkN (Nat.le_refl _) rfl (by omega)) ?_
    refine bV 4 rfl rfl (aD rfl) ?_
    refine bV 5 rfl rfl (aD rfl) ?_
    refine bV 6 rfl rfl (qn k el68 rfl rfl rfl (by omega) (Nat.le_refl _)) ?_
    refine cg (q := false) 7 rfl (by kernel_rfl) rfl rfl (vZ (zs := iB N k v) 0 el68 (fun _ => rfl) rfl rfl rfl rfl (qc v hk2) j hj (by rw [qc v hk2]; omega) (iB N (k + j) v) (uJ v (by omega) (by omega)) ?_)
    refine bST rfl ?_
    refine bV 8 rfl rfl (bd rfl rfl (by omega)) ?_
    refine bV 9 rfl rfl (cz rfl) ?_
    refine bO (by kernel_rfl) ?_
    refine bB (az ?_)
    refine ⟨[7, 8], [], [0], rfl, ?_⟩
    refine ⟨k + j, ⟨⟨by omega, by omega⟩, ?_⟩, by omega⟩
    rw [Int.natCast_add]; rfl
   ·skip
    have hkN : k = N := by simp at h3; omega
    subst hkN
    rw [show iB k k v = List.replicate k v by simp [iB]]
    refine aX (aY (aY (bf (az (aSR (aM rfl (aA rfl (aNn (aJ ?_)))))))))
    refine br [] [0] rfl Tryz.results31 rfl ?_ (.inr rfl)
    exact ⟨rfl, rfl⟩
end Go.Proofs.YtgmiihmahaahiaaGreatDoor

namespace Go.Proofs.YtgmiihmahaahiaaGreatDoor
open Go.RowKit Go.Lp Go.Sy
open Go.Proofs.Tryz
attribute [local irreducible] aL aB awp aC fwp
def aaj (P : Program) (kt : TypeId) : Bool := !P.stoodInHeld kt && match P.underlying kt with
 | some (.struct fs) => (match fs.toList with
   | [f, g] => f.name != "_" && g.name != "_" && f.offset == 0 && g.offset == 1 && (match P.underlying f.type with | some .string => true | _ => false) && (match P.underlying g.type with | some .string => true | _ => false)
   | _ => false)
 | _ => false
theorem x7 {P : Program} {kt : TypeId} (h : aaj P kt = true) : ft P kt cI := by
 unfold aaj at h
 rw [Bool.and_eq_true] at h
 obtain ⟨h0, h⟩ := h
 cases hu : P.underlying kt with
 | none => rw [hu] at h; cases h
 | some t =>
   rw [hu] at h
   cases t with
   | struct fs =>
     dsimp only at h
     cases hl : fs.toList with
     | nil => rw [hl] at h; cases h
     | cons f l =>
       rw [hl] at h
       cases l with
       | nil => cases h
       | cons g l =>
         cases l with
         | cons _ _ => cases h
         | nil =>
           simp only [Bool.and_eq_true, bne_iff_ne, beq_iff_eq] at h
           obtain ⟨⟨⟨⟨⟨n1, n2⟩, o1⟩, o2⟩, t1⟩, t2⟩ := h
           have hf : P.fieldsOf kt = fs := by unfold Program.fieldsOf; rw [hu]
           refine ze (f := f) (g := g) (by rw [hf]; exact hu) (by simpa using h0) (by rw [hf]; exact hl) n1 n2 o1 o2 ?_ ?_
           · split at t1
             · assumption
             · cases t1
           · split at t2
             · assumption
             · cases t2
   | _ => cases h
theorem kyK : ft Tryz.prog 157 cI := x7 (by kernel_rfl)
theorem kyT : ft Tryz.prog 9 eS := yK Tryz.underlying9
def slV {α : Type} (s : Sl α) : Value := .slice s.ad s.l.length s.cap
def iP (k : dw) : List D := [.v (.string k.1), .v (.string k.2)]
def chP (kp : List (Sl Bool)) (L : List Dfn) : dw → Option aK := fun k => (cE kp L k).map (·.p)
structure CS where
 mA : dw → Option (Sl aK)
 mN : ByteArray → Option (Sl dw)
 fa : aK × Bool
structure i6 (kp : List (Sl Bool)) (L : List Dfn) (st : CS) : Prop where
 all : ∀ k, (cK st.mA k).l = (dZ kp L k).map (·.p)
 names : ∀ n, (cK st.mN n).l = eG kp L n
 tw : gL kp L = if st.fa.2 = true then some st.fa.1 else none
abbrev sW (x : cm) (a b : Nat) (L : List Dfn) (st : CS) : List Res :=
 [dg x.ball cI slV st.mA, eM 34 2 aK.row st.mA, dg x.bch cI aK.val (chP x.kp.l L), dg x.bnm eS slV st.mN, eM 157 2 iP st.mN, Box a 34 st.fa.1.vs, Box b 4 [.bool st.fa.2]]
theorem kW {α β : Type} [DecidableEq α] (m : α → Option (Sl β)) (k a : α) (s : Sl β) : cK (cO m k s) a = if a = k then s else cK m a := by
 unfold cK cO; by_cases h : a = k <;> simp [h]
section
variable {kp : List (Sl Bool)} {L : List Dfn} {d : Dfn} {st : CS}
theorem yH (hd : fC kp d = true) : chP kp (L ++ [d]) = match cE kp L d.key with
   | none => cO (chP kp L) d.key d.p
   | some e => if fG d < fG e then cO (chP kp L) d.key d.p else chP kp L := by
 funext k
 unfold chP
 rw [lM]
 by_cases hk : d.key = k
 · subst hk
   rw [if_pos ⟨hd, rfl⟩]
   cases hc : cE kp L d.key with
   | none => simp [better, cO]
   | some e =>
     simp only [better]
     split
     · simp [cO]
     · simp [hc]
 · rw [if_neg (fun h => hk h.2)]
   cases hc : cE kp L d.key with
   | none => simp [cO, Ne.symm hk]
   | some e =>
     dsimp only
     split
     · simp [cO, Ne.symm hk]
     · rfl
theorem i6.skip (h : i6 kp L st) (hd : fC kp d = false) : i6 kp (L ++ [d]) st where
 all k := by rw [h.all, jZ, if_neg (by simp [hd]), List.append_nil]
 names n := by rw [h.names, gH, if_neg (by simp [hd])]
 tw := by rw [jA, if_neg (by simp [hd]), Option.or_none]; exact h.tw
theorem yz (hd : fC kp d = false) : chP kp (L ++ [d]) = chP kp L := by
 funext k; unfold chP; rw [lM, if_neg (by simp [hd])]
theorem i6.step (h : i6 kp L st) (hd : fC kp d = true) {s : Sl aK} (hs : s.l = (cK st.mA d.key).l ++ [d.p]) {mN : ByteArray → Option (Sl dw)} {fa : aK × Bool}
   (hN : ∀ n, (cK mN n).l = if n = d.s.name ∧ dZ kp L d.key = [] then (cK st.mN n).l ++ [d.key] else (cK st.mN n).l)
   (hf : fa = if d.s.bind = 1 ∧ ∃ e ∈ dZ kp L d.key, e.s.bind = 1 then el st.fa d.p else st.fa) (hlt : st.fa.2 = true → ¬ ltC d.p st.fa.1) : i6 kp (L ++ [d]) ⟨cO st.mA d.key s, mN, fa⟩ where
 all k := by
   rw [kW, jZ]
   by_cases hk : k = d.key
   · subst hk; rw [if_pos rfl, if_pos ⟨hd, rfl⟩, hs, h.all]; simp
   · rw [if_neg hk, if_neg (fun hh => hk hh.2.symm), List.append_nil, h.all]
 names n := by
   show (cK mN n).l = _
   rw [hN, gH, h.names]
   by_cases hn : n = d.s.name ∧ dZ kp L d.key = []
   · rw [if_pos hn, if_pos ⟨hd, hn.1.symm, hn.2⟩]
   · rw [if_neg hn, if_neg (fun hh => hn ⟨hh.2.1.symm, hh.2.2⟩)]
 tw := by
   show _ = if fa.2 = true then some fa.1 else none
   rw [jA, h.tw, hf]
   by_cases hc : d.s.bind = 1 ∧ ∃ e ∈ dZ kp L d.key, e.s.bind = 1
   · have e1 : (if fC kp d = true ∧ d.s.bind = 1 ∧ (∃ e ∈ dZ kp L d.key, e.s.bind = 1) then some d.p else none) = some d.p := if_pos ⟨hd, hc⟩
     rw [e1, if_pos hc]
     unfold el
     cases hb : st.fa.2 with
     | false => simp
     | true => simp [hlt hb, hb]
   · have e1 : (if fC kp d = true ∧ d.s.bind = 1 ∧ (∃ e ∈ dZ kp L d.key, e.s.bind = 1) then some d.p else none) = none := if_neg fun hh => hc hh.2
     rw [e1, if_neg hc, Option.or_none]
end
theorem uG {kp : List (Sl Bool)} {L : List Dfn} {p : aK} (h : gL kp L = some p) : ∃ e ∈ L, e.p = p := by
 induction L using gZ with
 | nil => cases h
 | snoc L d ih =>
   rw [jA, Option.or_eq_some_iff] at h
   rcases h with h | ⟨_, h⟩
   · obtain ⟨e, he, hp⟩ := ih h; exact ⟨e, List.mem_append_left _ he, hp⟩
   · split at h
     · exact ⟨d, by simp, Option.some.inj h⟩
     · cases h
theorem i6.lt {kp : List (Sl Bool)} {L : List Dfn} {d : Dfn} {st : CS} (h : i6 kp L st) (hA : Asc (L ++ [d])) (hb : st.fa.2 = true) : ¬ ltC d.p st.fa.1 := by
 have := h.tw
 rw [if_pos hb] at this
 obtain ⟨e, he, hp⟩ := uG this
 rw [← hp]
 exact fun hlt => eQ _ (fj ((List.pairwise_append.1 hA).2.2 e he d (List.mem_singleton.2 rfl)) hlt)
def lN (kp : List (Sl Bool)) (L : List Dfn) (d : Dfn) : dw → Option aK := if dZ kp L d.key = [] then cO (chP kp L) d.key d.p else chP kp L
theorem yM {kp : List (Sl Bool)} {L : List Dfn} {d : Dfn} (hb : fC kp d = true) : ∃ old, lN kp L d d.key = some old.p ∧ (old = d ∨ old ∈ L) ∧ (dZ kp L d.key = [] → old = d) ∧ (dZ kp L d.key ≠ [] → cE kp L d.key = some old) := by
 unfold lN
 by_cases h : dZ kp L d.key = []
 · rw [if_pos h]; exact ⟨d, wg _ _ _, .inl rfl, fun _ => rfl, fun h2 => (h2 h).elim⟩
 · rw [if_neg h]
   cases hc : cE kp L d.key with
   | none => exact (h (fg.1 hc)).elim
   | some e => exact ⟨e, by unfold chP; rw [hc]; rfl, .inr (dP hc).1, fun h2 => (h h2).elim, fun _ => rfl⟩
theorem lH {kp : List (Sl Bool)} {L : List Dfn} {d old : Dfn} (hb : fC kp d = true) (h1 : dZ kp L d.key = [] → old = d) (h2 : dZ kp L d.key ≠ [] → cE kp L d.key = some old) :
   chP kp (L ++ [d]) = if fG d < fG old then cO (lN kp L d) d.key d.p else lN kp L d := by
 rw [yH hb]
 unfold lN
 by_cases h : dZ kp L d.key = []
 · rw [if_pos h, fg.2 h, h1 h, if_neg (Int.lt_irrefl _)]
 · rw [if_neg h, h2 h]
theorem xR (x : cm) (hok : jv x.objs.l x.kp.l) (lb b2 a b : Nat) (L : List Dfn) (d : Dfn) (hd : InD x.objs.l d) (hlen : L.length < 70) (hpre : ∃ M, bQ x.objs.l = (L ++ [d]) ++ M) (st : CS) (hI : i6 x.kp.l L st) :
   Con Tryz.prog 84 [d.p.val, d.s.val, .pointer (some ⟨b2, 0, none⟩), .pointer (some ⟨a, 0, none⟩), .pointer (some ⟨b, 0, none⟩)] [At b2 0 [.v (.pointer (some ⟨lb, 0, none⟩))], At lb 0 x.row, x.ok] (sW x a b L st)
     fun _ ps hp => ps = [] ∧ ∃ y, i6 x.kp.l (L ++ [d]) y ∧ hp = sW x a b (L ++ [d]) y := by
 refine Con.conv (R := fun _ ps hp => ps = [] ∧ ((∃ y, i6 x.kp.l (L ++ [d]) y ∧ hp = sW x a b (L ++ [d]) y) ∨ ∃ (s : Sl aK) (mN : ByteArray → Option (Sl dw)) (fa : aK × Bool) (v : Value) (rows : List (List D)), i6 x.kp.l (L ++ [d]) ⟨cO st.mA d.key s, mN, fa⟩ ∧ v = s.val ∧ rows = s.l.map aK.row ∧
   hp = [dg x.ball cI slV (cO st.mA d.key s), eM 34 2 aK.row (ny st.mA d.key), dg x.bch cI aK.val (chP x.kp.l (L ++ [d])), dg x.bnm eS slV mN, eM 157 2 iP mN, Box a 34 fa.1.vs, Box b 4 [.bool fa.2], bg v 34 2 rows])) ?_ fun _ ps' hp' ⟨h1, h⟩ => ?_
 rotate_left
 · subst h1
   rcases h with h | ⟨s, mN, fa, v, rows, hc, hv, hr, rfl⟩
   · exact ⟨_, _, .refl, rfl, h⟩
   · refine ⟨_, _, (StE.put (row := aK.row) 1 7 d.key s rfl rfl hv hr (iO _ _) rfl).trans (StE.keep [] [0, 1, 2, 3, 4, 5, 6] rfl), rfl, ⟨cO st.mA d.key s, mN, fa⟩, hc, ?_⟩
     rw [jG]; rfl
 have hA : Asc (L ++ [d]) := by
   obtain ⟨M, hM⟩ := hpre
   have := gp x.objs.l x.objs.l.length
   rw [show cZ x.objs.l x.objs.l.length = bQ x.objs.l from rfl, hM] at this
   exact (List.pairwise_append.1 this).1
 have hmem : ∀ e, e = d ∨ e ∈ L → InD x.objs.l e := fun e he => by
   rw [← mX]
   obtain ⟨M, hM⟩ := hpre
   rw [hM]
   rcases he with rfl | he <;> simp [*]
 have hlA : ((st.mA d.key).getD ⟨none, 0, []⟩).l.length = (dZ x.kp.l L d.key).length := by
   have := congrArg List.length (hI.all d.key)
   rw [List.length_map] at this; exact this
 have hlN : ((st.mN d.s.name).getD ⟨none, 0, []⟩).l.length ≤ 70 := by
   have := congrArg List.length (hI.names d.s.name)
   have h2 := lX (kp := x.kp.l) L d.s.name
   have h3 : ((st.mN d.s.name).getD ⟨none, 0, []⟩).l.length = (eG x.kp.l L d.s.name).length := this
   omega
 have hlA2 : ((st.mA d.key).getD ⟨none, 0, []⟩).l.length ≤ 70 := by
   have h2 := aaY (kp := x.kp.l) L d.key
   omega
 refine Con.enter Tryz.func84 rfl (by simp [Tryz.ntmps84]) ?_
 show awp _ _ _ _ ⟨[(0, true, _), (1, true, _), (2, true, _), (3, true, _), (4, true, _)], _, _⟩
 refine aSR ?_
 refine an (q := true) rfl (cx rfl rfl rfl (fun b0_0 => ?_))
 refine aHN ?_
 refine an (q := true) rfl (cx rfl rfl rfl (fun b0_1 => ?_))
 refine aHN ?_
 refine aNs (aSR (aU rfl (aN (o := 0) tk101 rfl (.of (aF 0 rfl)) rfl) (aU rfl (ah 7 tk34 rfl rfl rfl) (aU rfl (ah 8 tk63 rfl rfl rfl) ?_))))
 refine aU rfl (bC (by kernel_rfl) rfl (fun w S fp hst => (tS x hok lb d hd).quiet2 (aF 1 rfl) (aF 2 rfl) hst)) ?_
 refine aU rfl (bZ rfl) (aNn ?_)
 refine al _ rfl (fun h1 => ?_) (fun h1 => ?_)
 ·skip
  have hdef : fC x.kp.l d = false := by simpa using h1
  refine aJ (aO ?_)
  rw [← yz (L := L) (d := d) hdef]
  refine ir [] [0, 1, 2, 3, 4, 5, 6] rfl Tryz.results84 ?_ (.inr rfl)
  exact ⟨rfl, .inl ⟨st, hI.skip hdef, rfl⟩⟩
 ·skip
  have hdef : fC x.kp.l d = true := by simpa using h1
  obtain ⟨old, hold, holdm, holdf, holdc⟩ := yM (L := L) hdef
  refine aq (az (aSR ?_))
  refine aU rfl (qFA (off := 0) rfl) ?_
  refine aU rfl (ah 8 tk9 rfl rfl rfl) ?_
  refine aU rfl (qFA (off := 1) rfl) ?_
  refine aU rfl (ah 8 tk9 rfl rfl rfl) ?_
  refine aU rfl (dz (l := [(0, .tmp 15), (1, .tmp 17)]) (zs := [.string .empty, .string .empty]) (pl := [(0, 1), (1, 1)]) (by kernel_rfl) (by kernel_rfl) (by kernel_rfl) rfl rfl rfl) ?_
  refine an (q := true) rfl (bc (zs := [.string .empty, .string .empty]) (by kernel_rfl) rfl (fun b2_5 => ?_))
  refine aHN ?_
  refine an rfl (aV 9 tk157 rfl rfl rfl rfl ?_)
  refine aHK ?_
  refine aNs ?_
  refine fB (X := { mN : ByteArray → Option (Sl dw) // ∀ n, (cK mN n).l = if n = d.s.name ∧ dZ x.kp.l L d.key = [] then (cK st.mN n).l ++ [d.key] else (cK st.mN n).l }) (fun q => ⟨[(2, true, .pointer (some ⟨b2, 0, none⟩)), (3, true, .pointer (some ⟨a, 0, none⟩)), (4, true, .pointer (some ⟨b, 0, none⟩)), (5, true, .pointer (some ⟨b0_0, 0, none⟩)), (6, true, .pointer (some ⟨b0_1, 0, none⟩)), (7, true, .pointer (some ⟨b2_5, 0, none⟩))], [At b2 0 [.v (.pointer (some ⟨lb, 0, none⟩))], At lb 0 x.row, x.ok], [dg x.ball cI slV st.mA, eM 34 2 aK.row st.mA, dg x.bch cI aK.val (lN x.kp.l L d), dg x.bnm eS slV q.1, eM 157 2 iP q.1, Box a 34 st.fa.1.vs, Box b 4 [.bool st.fa.2], Box b0_0 34 d.p.vs, Box b0_1 63 d.s.vs, Box b2_5 157 [.string d.s.name, .string d.s.version]]⟩) ?_ ?_
  ·skip
   refine aH ?_
   refine bp [] (by kernel_rfl) ?_
   show aB _ _ _ _ _ 8 #[false, false, false, false, false, false, false, false] _
   refine bV 0 rfl rfl (aN (o := 0) tk101 rfl (.of (aF 0 rfl)) rfl) ?_
   refine bV 1 rfl rfl (aR rfl) ?_
   refine bV 2 rfl rfl (qFA (off := 5) rfl) ?_
   refine bV 3 rfl rfl (aN (o := 5) tk102 rfl (.of (aF 1 rfl)) rfl) ?_
   refine bV 4 rfl rfl (ah 9 tk157 rfl rfl rfl) ?_
   refine bV 5 rfl rfl (jd (k := d.key) (v0 := (⟨none, 0, []⟩ : Sl aK)) 0 Tryz.underlying102 (kyK) (by kernel_rfl) rfl rfl rfl) ?_
   refine bV 6 rfl rfl (aZ Tryz.underlying158 rfl) ?_
   refine bV 7 rfl rfl (bx rfl rfl) ?_
   refine bO (by kernel_rfl) ?_
   refine az ?_
   refine al _ rfl (fun h2 => ?_) (fun h2 => ?_)
   ·skip
    have hfr : dZ x.kp.l L d.key = [] := by
      have h2' : (((st.mA d.key).getD ⟨none, 0, []⟩).l.length : Int) = 0 := of_decide_eq_true h2
      rw [hlA] at h2'
      exact List.eq_nil_of_length_eq_zero (by omega)
    have hnew : ∀ s : Sl dw, s.l = (cK st.mN d.s.name).l ++ [d.key] → ∀ n, (cK (cO st.mN d.s.name s) n).l = if n = d.s.name ∧ dZ x.kp.l L d.key = [] then (cK st.mN n).l ++ [d.key] else (cK st.mN n).l := fun s hs n => by
      rw [kW]
      by_cases hn : n = d.s.name
      · subst hn; rw [if_pos rfl, if_pos ⟨rfl, hfr⟩, hs]
      · rw [if_neg hn, if_neg (fun hh => hn hh.1)]
    have hch : cO (chP x.kp.l L) d.key d.p = lN x.kp.l L d := by unfold lN; rw [if_pos hfr]
    refine aH (gG 4 d.s.name rfl ?_)
    refine cP [15, 16] [] [b0_1] (by kernel_rfl) ?_
    show aC _ _ _ _ _ _ _ 17 #[false, false, false, false, false, false, false, false, false, false, false, false, false, false, false, false, false] _
    refine bt 0 rfl (by kernel_rfl) true rfl rfl (fun _ => aN (o := 0) tk101 rfl (.of (aF 0 rfl)) rfl) ?_
    refine bt 1 rfl (by kernel_rfl) true rfl rfl (fun _ => aR rfl) ?_
    refine bt 2 rfl (by kernel_rfl) true rfl rfl (fun _ => qFA (off := 7) rfl) ?_
    refine bt 3 rfl (by kernel_rfl) true rfl rfl (fun _ => aN (o := 7) tk104 rfl (.of (aF 1 rfl)) rfl) ?_
    refine bt 4 rfl (by kernel_rfl) true rfl rfl (fun _ => qFA (off := 0) rfl) ?_
    refine db 5 8 rfl (by kernel_rfl) true rfl rfl (by simp) tk9 (fun _ => rfl) rfl rfl ?_
    refine bt 6 rfl (by kernel_rfl) true rfl rfl (fun _ => aN (o := 0) tk101 rfl (.of (aF 0 rfl)) rfl) ?_
    refine bt 7 rfl (by kernel_rfl) true rfl rfl (fun _ => aR rfl) ?_
    refine bt 8 rfl (by kernel_rfl) true rfl rfl (fun _ => qFA (off := 7) rfl) ?_
    refine bt 9 rfl (by kernel_rfl) true rfl rfl (fun _ => aN (o := 7) tk104 rfl (.of (aF 1 rfl)) rfl) ?_
    refine bt 10 rfl (by kernel_rfl) true rfl rfl (fun _ => qFA (off := 0) rfl) ?_
    refine db 11 8 rfl (by kernel_rfl) true rfl rfl (by simp) tk9 (fun _ => rfl) rfl rfl ?_
    refine mO 12 rfl (by kernel_rfl) true rfl rfl (fun _ => jd (k := d.s.name) (v0 := (⟨none, 0, []⟩ : Sl dw)) 3 Tryz.underlying104 (kyT) (by kernel_rfl) rfl rfl rfl) ?_
    refine mO 13 rfl (by kernel_rfl) true rfl rfl (fun _ => ah 9 tk157 rfl rfl rfl) ?_
    refine cq 14 [] (by kernel_rfl) (bL ?_ bX)
    refine cR 14 rfl rfl (Eff.x ?_)
    refine id (cB (zs := [.string .empty, .string .empty]) (l := [(0, .tmp 40)]) el159 (by kernel_rfl) (by decide) (by decide) (by decide) rfl rfl rfl (.more rfl (.v rfl (.v rfl .nil)) .nil) rfl rfl (fun v4_14 => ?_))
    refine dD (by (try simp only [nO, nK, nL]); rfl) (by (try simp only [nM, nN]); rfl) (by (try simp only [bK, nQ, nR, dp, place, Nat.reduceBEq, if_true, if_false, reduceIte, Nat.reduceAdd, nW]); rfl) ?_
    refine cq 15 [] (by kernel_rfl) (bL ?_ bX)
    refine cR 15 rfl rfl (Eff.framed (q := false) [10, 11] rfl rfl (jq 8 rfl rfl qN) ?_)
    refine id (cL 0 el159 rfl rfl rfl rfl (dR 1 el159 rfl (by simp)) (by first | assumption | simp) (by show ((cK st.mN d.s.name).l.map iP).length + 1 ≤ _; rw [List.length_map]; exact Nat.le_trans (Nat.add_le_add_right hlN 1) (by decide)) (((cK st.mN d.s.name).l ++ [d.key]).length) (by show ((cK st.mN d.s.name).l.map iP).length + 1 = _; rw [List.length_map, List.length_append]; rfl) (fun v4_15 c4_15 => ?_))
    refine kQ ?_
    refine dD (by (try simp only [nO, nK, nL]); rfl) (by (try simp only [nM, nN]); rfl) (by (try simp only [bK, nQ, nR, dp, place, Nat.reduceBEq, if_true, if_false, reduceIte, Nat.reduceAdd, nW]); rfl) ?_
    refine cq 16 [] (by kernel_rfl) (bL ?_ bX)
    refine cR 16 rfl rfl (Eff.framed (q := false) [3] rfl rfl (jq 8 rfl rfl qN) ?_)
    refine id (dQ (k := d.s.name) (v := (⟨v4_15, c4_15, (cK st.mN d.s.name).l ++ [d.key]⟩ : Sl dw)) 0 Tryz.underlying104 (kyT) rfl rfl rfl rfl ?_)
    refine kQ ?_
    refine dD (by (try simp only [nO, nK, nL]); rfl) (by (try simp only [nM, nN]); rfl) (by (try simp only [bK, nQ, nR, dp, place, Nat.reduceBEq, if_true, if_false, reduceIte, Nat.reduceAdd, nW]); rfl) ?_
    refine eN (by kernel_rfl) ?_
    refine az ?_
    refine ru (row := iP) 4 10 d.s.name (⟨v4_15, c4_15, (cK st.mN d.s.name).l ++ [d.key]⟩ : Sl dw) rfl rfl rfl (by first | (rw [List.map_append]; done) | (rw [List.map_append]; rfl)) (iO _ _) rfl ?_
    rw [jG]
    refine bp [6] (by kernel_rfl) ?_
    show aB _ _ _ _ _ 7 #[false, false, false, false, false, false, false] _
    refine bV 0 rfl rfl (aN (o := 0) tk101 rfl (.of (aF 0 rfl)) rfl) ?_
    refine bV 1 rfl rfl (aR rfl) ?_
    refine bV 2 rfl rfl (qFA (off := 6) rfl) ?_
    refine bV 3 rfl rfl (aN (o := 6) tk103 rfl (.of (aF 1 rfl)) rfl) ?_
    refine bV 4 rfl rfl (ah 9 tk157 rfl rfl rfl) ?_
    refine bV 5 rfl rfl (ah 7 tk34 rfl rfl rfl) ?_
    refine cg 6 rfl (by kernel_rfl) rfl rfl (dQ (k := d.key) (v := d.p) 2 Tryz.underlying103 (kyK) rfl rfl rfl rfl ?_)
    refine bST rfl ?_
    refine bO (by kernel_rfl) ?_
    rw [hch]
    refine az ?_
    first
    | exact ⟨[2, 3, 4, 5, 6, 7], [2, 1, 0], [0, 1, 2, 3, 4, 5, 6, 7, 8, 9], ⟨cO st.mN d.s.name (⟨v4_15, c4_15, (cK st.mN d.s.name).l ++ [d.key]⟩ : Sl dw), hnew _ rfl⟩, rfl, rfl⟩
    | exact ⟨[2, 3, 4, 5, 6, 7], [2, 1, 0], [0, 1, 2, 3, 4, 5, 6, 7, 8, 9], ⟨st.mN, by assumption⟩, rfl, rfl⟩
   ·skip
    have hfr : dZ x.kp.l L d.key ≠ [] := by
      intro h0
      have h2' : ¬ (((st.mA d.key).getD ⟨none, 0, []⟩).l.length : Int) = 0 := of_decide_eq_false h2
      rw [hlA, h0] at h2'
      exact h2' rfl
    have hsame : ∀ n, (cK st.mN n).l = if n = d.s.name ∧ dZ x.kp.l L d.key = [] then (cK st.mN n).l ++ [d.key] else (cK st.mN n).l := fun n => by rw [if_neg (fun hh => hfr hh.2)]
    rw [show chP x.kp.l L = lN x.kp.l L d by unfold lN; rw [if_neg hfr]]
    refine aq (az ?_)
    first
    | exact ⟨[2, 3, 4, 5, 6, 7], [2, 1, 0], [0, 1, 2, 3, 4, 5, 6, 7, 8, 9], ⟨cO st.mN d.s.name (⟨v4_15, c4_15, (cK st.mN d.s.name).l ++ [d.key]⟩ : Sl dw), hnew _ rfl⟩, rfl, rfl⟩
    | exact ⟨[2, 3, 4, 5, 6, 7], [2, 1, 0], [0, 1, 2, 3, 4, 5, 6, 7, 8, 9], ⟨st.mN, by assumption⟩, rfl, rfl⟩
  ·skip
   rintro ⟨mN, hmN⟩
   dsimp only
   refine aH ?_
   refine bp [9] (by kernel_rfl) ?_
   show aB _ _ _ _ _ 10 #[false, false, false, false, false, false, false, false, false, false] _
   refine bV 0 rfl rfl (aN (o := 0) tk101 rfl (.of (aF 0 rfl)) rfl) ?_
   refine bV 1 rfl rfl (aN (o := 0) tk101 rfl (.of (aF 0 rfl)) rfl) ?_
   refine bV 2 rfl rfl (aR rfl) ?_
   refine bV 3 rfl rfl (qFA (off := 6) rfl) ?_
   refine bV 4 rfl rfl (aN (o := 6) tk103 rfl (.of (aF 1 rfl)) rfl) ?_
   refine bV 5 rfl rfl (ah 9 tk157 rfl rfl rfl) ?_
   refine bV 6 rfl rfl ((jd (k := d.key) (v0 := (⟨0, 0⟩ : aK)) 2 Tryz.underlying103 (kyK) (by kernel_rfl) rfl rfl rfl).castV (v' := aK.val old.p) (congrArg aK.val (by rw [hold]; rfl))) ?_
   refine bV 7 rfl rfl (bC (by kernel_rfl) rfl (fun w S fp hst => (mV x lb old (hmem old holdm)).quiet2 (aF 1 rfl) (aF 2 rfl) hst)) ?_
   refine cg (q := true) 8 rfl (by kernel_rfl) rfl rfl (bc (zs := [.string .empty, .string .empty, .bool false, .int .i64 0, .int .i64 0, .int .i64 0, .int .i64 0, .int .i64 0, .int .i64 0, .int .i64 0]) (by kernel_rfl) rfl (fun b6_8 => ?_))
   refine bST rfl ?_
   refine cg 9 rfl (by kernel_rfl) rfl rfl (aV 10 tk63 rfl rfl rfl rfl ?_)
   refine bST rfl ?_
   refine bO (by kernel_rfl) ?_
   refine az (aH (aH ?_))
   refine bp [] (by kernel_rfl) ?_
   show aB _ _ _ _ _ 18 #[false, false, false, false, false, false, false, false, false, false, false, false, false, false, false, false, false, false] _
   refine bV 0 rfl rfl (aN (o := 0) tk101 rfl (.of (aF 0 rfl)) rfl) ?_
   refine bV 1 rfl rfl (aR rfl) ?_
   refine bV 2 rfl rfl (qFA (off := 5) rfl) ?_
   refine bV 3 rfl rfl (aN (o := 5) tk102 rfl (.of (aF 1 rfl)) rfl) ?_
   refine bV 4 rfl rfl (ah 9 tk157 rfl rfl rfl) ?_
   refine bV 5 rfl rfl (jd (k := d.key) (v0 := (⟨none, 0, []⟩ : Sl aK)) 0 Tryz.underlying102 (kyK) (by kernel_rfl) rfl rfl rfl) ?_
   refine bV 6 rfl rfl (aZ Tryz.underlying158 rfl) ?_
   refine bV 7 rfl rfl (cN rfl rfl) ?_
   refine bV 8 rfl rfl (aD rfl) ?_
   refine bW 9 rfl rfl rfl (fun hc => qFA (off := 3) rfl) ?_
   refine bW 10 rfl rfl rfl (fun hc => ah 8 tk3 (ae rfl hc) rfl rfl) ?_
   refine bW 11 rfl rfl rfl (fun hc => bx (ae rfl hc) rfl) ?_
   refine bV 12 rfl rfl (bJ rfl rfl (fun h => gt rfl h)) ?_
   refine bV 13 rfl rfl (aD rfl) ?_
   refine bW 14 rfl rfl rfl (fun hc => qFA (off := 3) rfl) ?_
   refine bW 15 rfl rfl rfl (fun hc => ah 10 tk3 (ae rfl hc) rfl rfl) ?_
   refine bW 16 rfl rfl rfl (fun hc => bx (ae rfl hc) rfl) ?_
   refine bV 17 rfl rfl (bJ rfl rfl (fun h => gt rfl h)) ?_
   refine bO (by kernel_rfl) ?_
   refine az ?_
   refine al _ rfl (fun h3 => ?_) (fun h3 => ?_)
   ·skip
    have hfa : el st.fa d.p = if d.s.bind = 1 ∧ ∃ e ∈ dZ x.kp.l L d.key, e.s.bind = 1 then el st.fa d.p else st.fa := by
      simp only [Bool.and_eq_true, decide_eq_true_eq] at h3
      rw [hlA] at h3
      have hne : dZ x.kp.l L d.key ≠ [] := fun h0 => by rw [h0] at h3; simp at h3
      obtain ⟨m1, m2, m3⟩ := dP (holdc hne)
      rw [if_pos ⟨h3.1.2, old, uj.2 ⟨m1, m2, m3⟩, h3.2⟩]
    refine aj (aU rfl (ah 7 tk34 rfl rfl rfl) ?_)
    refine an (q := false) rfl (bH [] [5, 6] (by kernel_rfl) rfl rfl rfl rfl (jY a b st.fa d.p) ?_)
    rintro _ _ _ ⟨rfl, rfl⟩
    refine aST ?_
    refine aNs (aH ?_)
    refine bp [] (by kernel_rfl) ?_
    show aB _ _ _ _ _ 5 #[false, false, false, false, false] _
    refine bV 0 rfl rfl (ah 8 tk63 rfl rfl rfl) ?_
    refine bV 1 rfl rfl (bC (by kernel_rfl) rfl (fun w S fp hst => (lL _).quiet0 hst)) ?_
    refine bV 2 rfl rfl (ah 10 tk63 rfl rfl rfl) ?_
    refine bV 3 rfl rfl (bC (by kernel_rfl) rfl (fun w S fp hst => (lL _).quiet0 hst)) ?_
    refine bV 4 rfl rfl (bw rfl rfl) ?_
    refine bO (by kernel_rfl) ?_
    refine az ?_
    refine al _ rfl (fun h4 => ?_) (fun h4 => ?_)
    ·skip
     have hcs : cO (lN x.kp.l L d) d.key d.p = chP x.kp.l (L ++ [d]) := by rw [lH hdef holdf holdc, if_pos (show fG d < fG old from of_decide_eq_true h4)]
     refine bp [6] (by kernel_rfl) ?_
     show aB _ _ _ _ _ 7 #[false, false, false, false, false, false, false] _
     refine bV 0 rfl rfl (aN (o := 0) tk101 rfl (.of (aF 0 rfl)) rfl) ?_
     refine bV 1 rfl rfl (aR rfl) ?_
     refine bV 2 rfl rfl (qFA (off := 6) rfl) ?_
     refine bV 3 rfl rfl (aN (o := 6) tk103 rfl (.of (aF 1 rfl)) rfl) ?_
     refine bV 4 rfl rfl (ah 9 tk157 rfl rfl rfl) ?_
     refine bV 5 rfl rfl (ah 7 tk34 rfl rfl rfl) ?_
     refine cg 6 rfl (by kernel_rfl) rfl rfl (dQ (k := d.key) (v := d.p) 2 Tryz.underlying103 (kyK) rfl rfl rfl rfl ?_)
     refine bST rfl ?_
     refine bO (by kernel_rfl) ?_
     refine az (gG 1 d.key rfl ?_)
     refine bp [7, 9, 11] (by kernel_rfl) ?_
     show aB _ _ _ _ _ 12 #[false, false, false, false, false, false, false, false, false, false, false, false] _
     refine bV 0 rfl rfl (aN (o := 0) tk101 rfl (.of (aF 0 rfl)) rfl) ?_
     refine bV 1 rfl rfl (aR rfl) ?_
     refine bV 2 rfl rfl (qFA (off := 5) rfl) ?_
     refine bV 3 rfl rfl (aN (o := 5) tk102 rfl (.of (aF 1 rfl)) rfl) ?_
     refine bV 4 rfl rfl (ah 9 tk157 rfl rfl rfl) ?_
     refine bV 5 rfl rfl (ah 7 tk34 rfl rfl rfl) ?_
     refine cg (q := true) 6 rfl (by kernel_rfl) rfl rfl (cB (zs := [.int .i64 0, .int .i64 0]) (l := [(0, .tmp 94)]) el158 (by kernel_rfl) (by decide) (by decide) (by decide) rfl rfl rfl (.more rfl (.v rfl (.v rfl .nil)) .nil) rfl rfl (fun v11_6 => ?_))
     refine bST rfl ?_
     refine cg 7 rfl (by kernel_rfl) rfl rfl (jh (k := d.key) (v0 := (⟨none, 0, []⟩ : Sl aK)) 0 Tryz.underlying102 (kyK) (by kernel_rfl) rfl rfl rfl rfl (fun z11_7 => ?_))
     refine bST rfl ?_
     refine bV 8 rfl rfl (bD rfl rfl) ?_
     refine tJ 10 rfl (by kernel_rfl) true rfl rfl (fun _ => bD rfl rfl) ?_
     refine cg 9 rfl (by kernel_rfl) rfl rfl (cL 11 el158 rfl rfl rfl rfl (dR 12 el158 rfl (by simp)) (by first | assumption | simp) (by show ((cK st.mA d.key).l.map aK.row).length + 1 ≤ _; rw [List.length_map]; exact Nat.le_trans (Nat.add_le_add_right hlA2 1) (by decide)) (((cK st.mA d.key).l ++ [d.p]).length) (by show ((cK st.mA d.key).l.map aK.row).length + 1 = _; rw [List.length_map, List.length_append]; rfl) (fun v11_9 c11_9 => ?_))
     refine bST rfl ?_
     refine cg 11 rfl (by kernel_rfl) rfl rfl (gO (k := d.key) (v := (⟨v11_9, c11_9, (cK st.mA d.key).l ++ [d.p]⟩ : Sl aK)) 0 (kyK) rfl rfl rfl rfl ?_)
     refine bST rfl ?_
     refine bO (by kernel_rfl) ?_
     rw [hcs, j4]
     refine ir [] [0, 1, 2, 3, 4, 5, 6, 11] rfl Tryz.results84 ?_ (.inl rfl)
     exact ⟨rfl, .inr ⟨⟨v11_9, c11_9, (cK st.mA d.key).l ++ [d.p]⟩, mN, _, _, _, hI.step hdef rfl hmN hfa (hI.lt hA), rfl, (by rw [List.map_append]; rfl), rfl⟩⟩
    ·skip
     have hcs : lN x.kp.l L d = chP x.kp.l (L ++ [d]) := by rw [lH hdef holdf holdc, if_neg (show ¬ fG d < fG old from of_decide_eq_false h4)]
     refine aq (az (gG 1 d.key rfl ?_))
     refine bp [7, 9, 11] (by kernel_rfl) ?_
     show aB _ _ _ _ _ 12 #[false, false, false, false, false, false, false, false, false, false, false, false] _
     refine bV 0 rfl rfl (aN (o := 0) tk101 rfl (.of (aF 0 rfl)) rfl) ?_
     refine bV 1 rfl rfl (aR rfl) ?_
     refine bV 2 rfl rfl (qFA (off := 5) rfl) ?_
     refine bV 3 rfl rfl (aN (o := 5) tk102 rfl (.of (aF 1 rfl)) rfl) ?_
     refine bV 4 rfl rfl (ah 9 tk157 rfl rfl rfl) ?_
     refine bV 5 rfl rfl (ah 7 tk34 rfl rfl rfl) ?_
     refine cg (q := true) 6 rfl (by kernel_rfl) rfl rfl (cB (zs := [.int .i64 0, .int .i64 0]) (l := [(0, .tmp 94)]) el158 (by kernel_rfl) (by decide) (by decide) (by decide) rfl rfl rfl (.more rfl (.v rfl (.v rfl .nil)) .nil) rfl rfl (fun v11_6 => ?_))
     refine bST rfl ?_
     refine cg 7 rfl (by kernel_rfl) rfl rfl (jh (k := d.key) (v0 := (⟨none, 0, []⟩ : Sl aK)) 0 Tryz.underlying102 (kyK) (by kernel_rfl) rfl rfl rfl rfl (fun z11_7 => ?_))
     refine bST rfl ?_
     refine bV 8 rfl rfl (bD rfl rfl) ?_
     refine tJ 10 rfl (by kernel_rfl) true rfl rfl (fun _ => bD rfl rfl) ?_
     refine cg 9 rfl (by kernel_rfl) rfl rfl (cL 11 el158 rfl rfl rfl rfl (dR 12 el158 rfl (by simp)) (by first | assumption | simp) (by show ((cK st.mA d.key).l.map aK.row).length + 1 ≤ _; rw [List.length_map]; exact Nat.le_trans (Nat.add_le_add_right hlA2 1) (by decide)) (((cK st.mA d.key).l ++ [d.p]).length) (by show ((cK st.mA d.key).l.map aK.row).length + 1 = _; rw [List.length_map, List.length_append]; rfl) (fun v11_9 c11_9 => ?_))
     refine bST rfl ?_
     refine cg 11 rfl (by kernel_rfl) rfl rfl (gO (k := d.key) (v := (⟨v11_9, c11_9, (cK st.mA d.key).l ++ [d.p]⟩ : Sl aK)) 0 (kyK) rfl rfl rfl rfl ?_)
     refine bST rfl ?_
     refine bO (by kernel_rfl) ?_
     rw [hcs, j4]
     refine ir [] [0, 1, 2, 3, 4, 5, 6, 11] rfl Tryz.results84 ?_ (.inl rfl)
     exact ⟨rfl, .inr ⟨⟨v11_9, c11_9, (cK st.mA d.key).l ++ [d.p]⟩, mN, _, _, _, hI.step hdef rfl hmN hfa (hI.lt hA), rfl, (by rw [List.map_append]; rfl), rfl⟩⟩
   ·skip
    have hfa : st.fa = if d.s.bind = 1 ∧ ∃ e ∈ dZ x.kp.l L d.key, e.s.bind = 1 then el st.fa d.p else st.fa := by
      rw [if_neg]
      rintro ⟨g1, e, he, g2⟩
      have hne : dZ x.kp.l L d.key ≠ [] := fun h0 => by rw [h0] at he; cases he
      have hr := re (holdc hne) e he
      have ho : old.s.bind = 1 := by
        unfold fG at hr
        rw [if_pos g2] at hr
        split at hr
        · assumption
        · split at hr <;> omega
      have hl0 : 0 < (dZ x.kp.l L d.key).length := List.length_pos_iff.2 hne
      rw [hlA] at h3
      simp [g1, ho] at h3
      exact hne h3
    refine aq (az (aH (aH ?_)))
    refine bp [] (by kernel_rfl) ?_
    show aB _ _ _ _ _ 5 #[false, false, false, false, false] _
    refine bV 0 rfl rfl (ah 8 tk63 rfl rfl rfl) ?_
    refine bV 1 rfl rfl (bC (by kernel_rfl) rfl (fun w S fp hst => (lL _).quiet0 hst)) ?_
    refine bV 2 rfl rfl (ah 10 tk63 rfl rfl rfl) ?_
    refine bV 3 rfl rfl (bC (by kernel_rfl) rfl (fun w S fp hst => (lL _).quiet0 hst)) ?_
    refine bV 4 rfl rfl (bw rfl rfl) ?_
    refine bO (by kernel_rfl) ?_
    refine az ?_
    refine al _ rfl (fun h5 => ?_) (fun h5 => ?_)
    ·skip
     have hcs : cO (lN x.kp.l L d) d.key d.p = chP x.kp.l (L ++ [d]) := by rw [lH hdef holdf holdc, if_pos (show fG d < fG old from of_decide_eq_true h5)]
     refine bp [6] (by kernel_rfl) ?_
     show aB _ _ _ _ _ 7 #[false, false, false, false, false, false, false] _
     refine bV 0 rfl rfl (aN (o := 0) tk101 rfl (.of (aF 0 rfl)) rfl) ?_
     refine bV 1 rfl rfl (aR rfl) ?_
     refine bV 2 rfl rfl (qFA (off := 6) rfl) ?_
     refine bV 3 rfl rfl (aN (o := 6) tk103 rfl (.of (aF 1 rfl)) rfl) ?_
     refine bV 4 rfl rfl (ah 9 tk157 rfl rfl rfl) ?_
     refine bV 5 rfl rfl (ah 7 tk34 rfl rfl rfl) ?_
     refine cg 6 rfl (by kernel_rfl) rfl rfl (dQ (k := d.key) (v := d.p) 2 Tryz.underlying103 (kyK) rfl rfl rfl rfl ?_)
     refine bST rfl ?_
     refine bO (by kernel_rfl) ?_
     refine az (gG 1 d.key rfl ?_)
     refine bp [7, 9, 11] (by kernel_rfl) ?_
     show aB _ _ _ _ _ 12 #[false, false, false, false, false, false, false, false, false, false, false, false] _
     refine bV 0 rfl rfl (aN (o := 0) tk101 rfl (.of (aF 0 rfl)) rfl) ?_
     refine bV 1 rfl rfl (aR rfl) ?_
     refine bV 2 rfl rfl (qFA (off := 5) rfl) ?_
     refine bV 3 rfl rfl (aN (o := 5) tk102 rfl (.of (aF 1 rfl)) rfl) ?_
     refine bV 4 rfl rfl (ah 9 tk157 rfl rfl rfl) ?_
     refine bV 5 rfl rfl (ah 7 tk34 rfl rfl rfl) ?_
     refine cg (q := true) 6 rfl (by kernel_rfl) rfl rfl (cB (zs := [.int .i64 0, .int .i64 0]) (l := [(0, .tmp 94)]) el158 (by kernel_rfl) (by decide) (by decide) (by decide) rfl rfl rfl (.more rfl (.v rfl (.v rfl .nil)) .nil) rfl rfl (fun v11_6 => ?_))
     refine bST rfl ?_
     refine cg 7 rfl (by kernel_rfl) rfl rfl (jh (k := d.key) (v0 := (⟨none, 0, []⟩ : Sl aK)) 0 Tryz.underlying102 (kyK) (by kernel_rfl) rfl rfl rfl rfl (fun z11_7 => ?_))
     refine bST rfl ?_
     refine bV 8 rfl rfl (bD rfl rfl) ?_
     refine tJ 10 rfl (by kernel_rfl) true rfl rfl (fun _ => bD rfl rfl) ?_
     refine cg 9 rfl (by kernel_rfl) rfl rfl (cL 11 el158 rfl rfl rfl rfl (dR 12 el158 rfl (by simp)) (by first | assumption | simp) (by show ((cK st.mA d.key).l.map aK.row).length + 1 ≤ _; rw [List.length_map]; exact Nat.le_trans (Nat.add_le_add_right hlA2 1) (by decide)) (((cK st.mA d.key).l ++ [d.p]).length) (by show ((cK st.mA d.key).l.map aK.row).length + 1 = _; rw [List.length_map, List.length_append]; rfl) (fun v11_9 c11_9 => ?_))
     refine bST rfl ?_
     refine cg 11 rfl (by kernel_rfl) rfl rfl (gO (k := d.key) (v := (⟨v11_9, c11_9, (cK st.mA d.key).l ++ [d.p]⟩ : Sl aK)) 0 (kyK) rfl rfl rfl rfl ?_)
     refine bST rfl ?_
     refine bO (by kernel_rfl) ?_
     rw [hcs, j4]
     refine ir [] [0, 1, 2, 3, 4, 5, 6, 11] rfl Tryz.results84 ?_ (.inl rfl)
     exact ⟨rfl, .inr ⟨⟨v11_9, c11_9, (cK st.mA d.key).l ++ [d.p]⟩, mN, _, _, _, hI.step hdef rfl hmN hfa (hI.lt hA), rfl, (by rw [List.map_append]; rfl), rfl⟩⟩
    ·skip
     have hcs : lN x.kp.l L d = chP x.kp.l (L ++ [d]) := by rw [lH hdef holdf holdc, if_neg (show ¬ fG d < fG old from of_decide_eq_false h5)]
     refine aq (az (gG 1 d.key rfl ?_))
     refine bp [7, 9, 11] (by kernel_rfl) ?_
     show aB _ _ _ _ _ 12 #[false, false, false, false, false, false, false, false, false, false, false, false] _
     refine bV 0 rfl rfl (aN (o := 0) tk101 rfl (.of (aF 0 rfl)) rfl) ?_
     refine bV 1 rfl rfl (aR rfl) ?_
     refine bV 2 rfl rfl (qFA (off := 5) rfl) ?_
     refine bV 3 rfl rfl (aN (o := 5) tk102 rfl (.of (aF 1 rfl)) rfl) ?_
     refine bV 4 rfl rfl (ah 9 tk157 rfl rfl rfl) ?_
     refine bV 5 rfl rfl (ah 7 tk34 rfl rfl rfl) ?_
     refine cg (q := true) 6 rfl (by kernel_rfl) rfl rfl (cB (zs := [.int .i64 0, .int .i64 0]) (l := [(0, .tmp 94)]) el158 (by kernel_rfl) (by decide) (by decide) (by decide) rfl rfl rfl (.more rfl (.v rfl (.v rfl .nil)) .nil) rfl rfl (fun v11_6 => ?_))
     refine bST rfl ?_
     refine cg 7 rfl (by kernel_rfl) rfl rfl (jh (k := d.key) (v0 := (⟨none, 0, []⟩ : Sl aK)) 0 Tryz.underlying102 (kyK) (by kernel_rfl) rfl rfl rfl rfl (fun z11_7 => ?_))
     refine bST rfl ?_
     refine bV 8 rfl rfl (bD rfl rfl) ?_
     refine tJ 10 rfl (by kernel_rfl) true rfl rfl (fun _ => bD rfl rfl) ?_
     refine cg 9 rfl (by kernel_rfl) rfl rfl (cL 11 el158 rfl rfl rfl rfl (dR 12 el158 rfl (by simp)) (by first | assumption | simp) (by show ((cK st.mA d.key).l.map aK.row).length + 1 ≤ _; rw [List.length_map]; exact Nat.le_trans (Nat.add_le_add_right hlA2 1) (by decide)) (((cK st.mA d.key).l ++ [d.p]).length) (by show ((cK st.mA d.key).l.map aK.row).length + 1 = _; rw [List.length_map, List.length_append]; rfl) (fun v11_9 c11_9 => ?_))
     refine bST rfl ?_
     refine cg 11 rfl (by kernel_rfl) rfl rfl (gO (k := d.key) (v := (⟨v11_9, c11_9, (cK st.mA d.key).l ++ [d.p]⟩ : Sl aK)) 0 (kyK) rfl rfl rfl rfl ?_)
     refine bST rfl ?_
     refine bO (by kernel_rfl) ?_
     rw [hcs, j4]
     refine ir [] [0, 1, 2, 3, 4, 5, 6, 11] rfl Tryz.results84 ?_ (.inl rfl)
     exact ⟨rfl, .inr ⟨⟨v11_9, c11_9, (cK st.mA d.key).l ++ [d.p]⟩, mN, _, _, _, hI.step hdef rfl hmN hfa (hI.lt hA), rfl, (by rw [List.map_append]; rfl), rfl⟩⟩
end Go.Proofs.YtgmiihmahaahiaaGreatDoor

namespace Go.Proofs.YtgmiihmahaahiaaGreatDoor
open Go.RowKit Go.Lp Go.Sy
open Go.Proofs.Tryz
attribute [local irreducible] aL aB awp aC fwp
theorem z6 (ad : Option Addr) (c : Nat) (v : Bool) (N : Nat) (hN : N ≤ 1000000) : Con Tryz.prog 31 [.slice ad 1 c, .int .i64 N] [Sh (.slice ad 1 c) (.sl (bS Value.bool [v]))] [] fun r ps hp => ps = [] ∧ hp = [bg r 4 1 (bS Value.bool (List.replicate N v))] := by
 rcases Nat.eq_zero_or_pos N with rfl | h
 · exact x3 v
 · exact xU v N hN h
def mu (m : ByteArray → Option Cp) : Per := ⟨fun w S => ∀ n c, m n = some c → c.ok.holds w S, fun h h1 h2 n c hc => c.ok.mono (h n c hc) h1 h2⟩
abbrev cp0 : Cp := ⟨0, ⟨none, 0, []⟩, ⟨none, 0, []⟩⟩
theorem wW {ps : List Per} {m : ByteArray → Option Cp} (h : Ent ps (mu m)) {n : ByteArray} (hn : (m n).isSome = true) : Ent ps ((m n).getD cp0).ok := fun w S hp => by
 obtain ⟨c, hc⟩ := Option.isSome_iff_exists.1 hn
 rw [hc]; exact h w S hp n c hc
theorem xb {ps : List Per} {m : ByteArray → Option Cp} (h : Ent ps (mu m)) {n : ByteArray} {c : Cp} (hc : Ent ps c.ok) : Ent ps (mu (cO m n c)) := fun w S hp a c2 hm => by
 unfold cO at hm
 split at hm
 · rw [← Option.some.inj hm]; exact hc w S hp
 · exact h w S hp a c2 hm
theorem wZ {ps : List Per} {K : List (Sl Bool)} {s : Sl Bool} (h : Ent ps (cv (ShF bR) K)) (hs : Ent ps (ShF bR s)) : Ent ps (cv (ShF bR) (K ++ [s])) := fun w S hp x hx => by
 rcases List.mem_append.1 hx with hx | hx
 · exact h w S hp x hx
 · rw [List.mem_singleton.1 hx]; exact hs w S hp
abbrev tq : ByteArray × (Int × Int) → List D := fun x => [.v (.string x.1), .v (.int .i64 x.2.1), .v (.int .i64 x.2.2)]
theorem xz {os : List ax} {K : List (Sl Bool)} {s : Sl Bool} (h : ∀ i : Nat, i < K.length → (elt K (i : Int)).l.length = (elt os (i : Int)).secs.l.length) (hs : s.l.length = (elt os (K.length : Int)).secs.l.length) : ∀ i : Nat, i < K.length + 1 → (elt (K ++ [s]) (i : Int)).l.length = (elt os (i : Int)).secs.l.length := fun i hi => by
 have h1 := bM (l := K ++ [s]) (i := i) (by rw [List.length_append]; exact hi)
 by_cases hlt : i < K.length
 · rw [List.getElem?_append_left hlt, bM hlt] at h1
   rw [← Option.some.inj h1]; exact h i hlt
 · obtain rfl : i = K.length := by omega
   rw [List.getElem?_append_right (Nat.le_refl _), Nat.sub_self] at h1
   rw [← Option.some.inj h1]; exact hs
structure ab8 (o : ax) : Prop where
 secs : o.secs.l.length ≤ 1000
 groups : o.groups.l.length ≤ 1000
theorem aad (os : Sl ax) (hn : os.l.length ≤ 1000) (hf : ∀ o ∈ os.l, ab8 o) (hr : ∀ o ∈ os.l, ab1 o) :
   Con Tryz.prog 12 [os.val] [dG, dF, ShF ax.row os, cv ax.ok os.l] [] fun r ps hp => hp = [] ∧ ∃ (K : Sl (Sl Bool)) (dv : Value), r = .tuple #[K.val, dv] ∧ K.l.length = os.l.length ∧ (∀ i : Nat, i < os.l.length → (elt K.l (i : Int)).l.length = (elt os.l (i : Int)).secs.l.length) ∧ ps = [cv (ShF bR) K.l, ShF slR K] := by
 refine Con.conv (R := fun r ps hp => ∃ (ka : Option Addr) (kc : Nat) (K : List (Sl Bool)) (dv : Value), r = .tuple #[.slice ka K.length kc, dv] ∧ K.length = os.l.length ∧ (∀ i : Nat, i < os.l.length → (elt K (i : Int)).l.length = (elt os.l (i : Int)).secs.l.length) ∧ ps = [cv (ShF bR) K] ∧ hp = [bg (.slice ka K.length kc) 68 1 (K.map slR)]) ?_ fun _ _ _ ⟨ka, kc, K, dv, h1, h2, h3, h4, h5⟩ => ?_
 rotate_left
 · subst h1 h4 h5
   exact ⟨_, _, (StE.share 0 (ShF slR ⟨ka, kc, K⟩) rfl fun _ _ _ h => eO h).trans (StE.keep [0, 1] [] rfl |>.trans (StE.ents (ps' := [cv (ShF bR) K, ShF slR ⟨ka, kc, K⟩]) (rD (.of (aF 0 rfl)) (.of (aF 1 rfl))))), rfl, ⟨ka, kc, K⟩, dv, rfl, h2, h3, rfl⟩
 refine Con.enter Tryz.func12 rfl (by simp [Tryz.ntmps12]) ?_
 show awp _ _ _ _ ⟨[(0, true, _)], _, _⟩
 refine bA (.of (aF 2 rfl)) (fun hlen => ?_)
 refine aSR (aA rfl (aA rfl (aNn (aSR (aA rfl (aNn (aSR (aA rfl (aNn (aSR ?_))))))))))
 refine an (q := true) rfl (fk (eS) (Cp.val) rfl (fun b3_0 => ?_))
 refine aHN ?_
 refine aA rfl (aNs (aH ?_))
 refine eD 68 1 (eD 100 3 ?_)
 refine jK (mu (fun _ => none)) (fun _ _ _ _ _ h => by cases h) (jK (cv (ShF bR) []) (fun _ _ _ _ h => by cases h) ?_)
 show awp _ _ _ _ ⟨_, _, [_, _, _]⟩
 refine aj (aM rfl (aU rfl (aZ Tryz.underlying22 rfl) (aM rfl (aNn (aI (aT [0, 4, 5, 6, 19, 20, 21] [5, 4, 3, 2, 1, 0] [0, 1, 2] (fun (q : Nat × ((Value × List (Sl Bool)) × ((Value × List (ByteArray × (Int × Int))) × (ByteArray → Option Cp)))) st => (q.1 ≤ os.l.length ∧ q.2.1.2.length = q.1 ∧ (∀ i : Nat, i < q.1 → (elt q.2.1.2 (i : Int)).l.length = (elt os.l (i : Int)).secs.l.length) ∧ q.2.2.1.2.length ≤ 1000 * q.1) ∧ st = ⟨[(0, true, os.val), (4, true, q.2.1.1), (5, true, q.2.2.1.1), (6, true, .map (some b3_0)), (19, true, os.val), (20, true, .int .i64 os.l.length), (21, true, .int .i64 q.1)], [cv (ShF bR) q.2.1.2, mu q.2.2.2, dG, dF, ShF ax.row os, cv ax.ok os.l], [dg b3_0 eS Cp.val q.2.2.2, bg q.2.1.1 68 1 (q.2.1.2.map slR), bg q.2.2.1.1 100 3 (q.2.2.1.2.map tq)]⟩) (fun q => os.l.length - q.1) rfl (⟨(0, ((.slice none 0 0, []), ((.slice none 0 0, []), fun _ => none))), ⟨Nat.zero_le _, rfl, (fun (i : Nat) (h : i < 0) => absurd h (Nat.not_lt_zero i)), Nat.le_refl _⟩, rfl⟩) ?_))))))
 rintro ⟨i, ⟨kv, K⟩, ⟨dv, df⟩, m⟩ st ⟨⟨hi, hK, hKl, hd⟩, rfl⟩
 dsimp only at hi hK hKl hd ⊢
 refine aSR (aU rfl (bw rfl rfl) (aNs ?_))
 refine al _ rfl (fun h1 => ?_) (fun h1 => ?_)
 ·skip
  have hi' : i < os.l.length := by simpa using h1
  have ho := bM hi'
  have hmem := List.mem_of_getElem? ho
  have hfo := hf _ hmem
  have hro := hr _ hmem
  generalize hoo : elt os.l (i : Int) = o at ho hmem hfo hro
  refine aq (az (aH (aI (aSR (aM rfl ?_)))))
  refine cJ true rfl rfl (fun _ => av Tryz.underlying22 tk61 rfl ((.of (aF 4 rfl))) rfl (aQ ho) rfl rfl) (fun h => absurd h (by decide)) (fun ⟨b6_1, o6_1⟩ => ?_)
  refine aU rfl (aP (o := 0) tk61 rfl (aF 0 rfl) rfl rfl) ?_
  refine an (q := true) rfl (bc (zs := [.string .empty, .slice none 0 0, .slice none 0 0, .slice none 0 0, .slice none 0 0, .slice none 0 0, .slice none 0 0, .slice none 0 0, .slice none 0 0, .slice none 0 0, .slice none 0 0]) (by kernel_rfl) rfl (fun b6_3 => ?_))
  refine aHN ?_
  refine aA rfl ?_
  refine an rfl (aV 3 tk61 rfl rfl rfl rfl ?_)
  refine aHK ?_
  refine aNs ?_
  refine bA (ax.f_secs (Ent.all (.of (aF 6 rfl)) ho)) (fun hls => ?_)
  refine bA (ax.f_groups (Ent.all (.of (aF 6 rfl)) ho)) (fun hlg => ?_)
  refine aj ?_
  refine aaR (zs := [.bool false]) (l := [(0, .const (.bool true))]) el68 (by kernel_rfl) (by decide) (by decide) (by decide) rfl _ rfl (fun hc => rfl) rfl (.more rfl (.v rfl .nil) .nil) rfl rfl (fun v7_0 => ?_)
  refine aU rfl (qFA (off := 1) rfl) ?_
  refine aU rfl (ah 3 tk50 rfl rfl rfl) (aU rfl (aZ Tryz.underlying50 rfl) ?_)
  refine an (q := true) rfl (bH [7] [] (by kernel_rfl) rfl rfl rfl rfl ((z6 v7_0 1 true o.secs.l.length (by have := hfo.secs; omega)).pre (fun p hp => (List.mem_singleton.1 hp) ▸ .yes (.of (aF 0 rfl)) rfl)) ?_)
  rintro r7 _ _ ⟨rfl, rfl⟩
  refine aST ?_
  refine aA rfl (aNs (aSR ?_))
  refine aU rfl (qFA (off := 4) rfl) ?_
  refine aU rfl (ah 3 tk53 rfl rfl rfl) (aU rfl (aZ Tryz.underlying53 rfl) (aM rfl (aNn (aI ?_))))
  refine aT [0, 4, 5, 6, 7, 8, 9, 19, 20, 21, 32, 33, 34] [5, 4, 3, 2, 1, 0] [0, 1, 2, 3, 4] (fun (q : Nat × ((Value × List (ByteArray × (Int × Int))) × ((ByteArray → Option Cp) × List Bool))) st => (q.1 ≤ o.groups.l.length ∧ q.2.1.2.length ≤ df.length + q.1 ∧ q.2.2.2.length = o.secs.l.length) ∧ st = ⟨[(0, true, os.val), (4, true, kv), (5, true, q.2.1.1), (6, true, .map (some b3_0)), (7, true, .int .i64 i), (8, true, .pointer (some ⟨b6_3, 0, none⟩)), (9, true, r7), (19, true, os.val), (20, true, .int .i64 os.l.length), (21, true, .int .i64 i), (32, true, o.groups.val), (33, true, .int .i64 o.groups.l.length), (34, true, .int .i64 q.1)], [cv (ShF bR) K, mu q.2.2.1, dG, dF, ShF ax.row os, cv ax.ok os.l], [dg b3_0 eS Cp.val q.2.2.1, bg kv 68 1 (K.map slR), bg q.2.1.1 100 3 (q.2.1.2.map tq), Box b6_3 61 o.vs, bg r7 4 1 (q.2.2.2.map bR)]⟩) (fun q => o.groups.l.length - q.1) rfl (⟨(0, ((dv, df), (m, List.replicate o.secs.l.length true))), ⟨Nat.zero_le _, Nat.le_refl _, by simp⟩, rfl⟩) ?_
  rintro ⟨j, ⟨dv2, df2⟩, m2, ks⟩ st ⟨⟨hj, hd2, hks⟩, rfl⟩
  dsimp only at hj hd2 hks ⊢
  refine aSR (aU rfl (bw rfl rfl) (aNs ?_))
  refine al _ rfl (fun h2 => ?_) (fun h2 => ?_)
  ·skip
   have hj' : j < o.groups.l.length := by simpa using h2
   obtain ⟨g, hg⟩ : ∃ g, o.groups.l[j]? = some g := ⟨_, List.getElem?_eq_getElem hj'⟩
   have hgr := hro.groups g (List.mem_of_getElem? hg)
   have hfs := hfo.secs
   refine aq (az (aH (aI (aSR ?_))))
   refine cJ true rfl rfl (fun _ => av Tryz.underlying53 tk92 rfl ((ax.f_groups (Ent.all (.of (aF 5 rfl)) ho))) rfl (aQ hg) rfl rfl) (fun h => absurd h (by decide)) (fun ⟨b10_0, o10_0⟩ => ?_)
   refine aU rfl (aP (o := 0) tk92 rfl (aF 0 rfl) rfl rfl) ?_
   refine an (q := true) rfl (bc (zs := [.string .empty, .slice none 0 0]) (by kernel_rfl) rfl (fun b10_2 => ?_))
   refine aHN ?_
   refine an rfl (aV 5 tk92 rfl rfl rfl rfl ?_)
   refine aHK ?_
   refine aNn (aSR (aU rfl (ah 3 tk61 rfl rfl rfl) (aU rfl (ah 5 tk92 rfl rfl rfl) ?_)))
   refine an (q := true) rfl (bH [0] [] (by kernel_rfl) rfl rfl rfl rfl ((rz o g (by omega) hgr.2).pre (rD (du.f_secs (Ent.all (ax.f_groupsA (Ent.all (.of (aF 0 rfl)) ho)) hg)) (Ent.all (.of (aF 0 rfl)) ho))) ?_)
   rintro _ _ _ ⟨rfl, sl, hsl, rfl, rfl⟩
   refine aST ?_
   refine aA rfl (aNn (aSR (aM rfl (aM rfl (aM rfl ?_)))))
   refine an (q := true) rfl (bH [7, 3, 2, 1, 0] [] (by kernel_rfl) rfl rfl rfl rfl (yx os i hi' (by rw [hoo]; exact hro.secs) sl (by rw [hsl]; omega) (by rw [hoo, hsl]; exact hgr.2)) ?_)
   rintro _ _ _ ⟨rfl, cp, rfl, rfl⟩
   refine aST ?_
   refine an (q := true) rfl (bc (zs := [.int .i64 0, .slice none 0 0, .slice none 0 0]) (by kernel_rfl) rfl (fun b12_4 => ?_))
   refine aHN ?_
   refine an rfl (aV 6 tk95 rfl rfl rfl rfl ?_)
   refine aHK ?_
   refine aNn (aSR (aM rfl ?_))
   refine aU rfl (qFA (off := 0) rfl) ?_
   refine aU rfl (ah 5 tk9 rfl rfl rfl) ?_
   refine aU rfl (um (k := g.name) (v0 := cp0) 0 Tryz.underlying88 (kyT) (by kernel_rfl) rfl rfl rfl) ?_
   refine aM rfl (aU rfl (bD rfl rfl) (aU rfl (bD rfl rfl) ?_))
   refine an (q := true) rfl (bc (zs := [.int .i64 0, .slice none 0 0, .slice none 0 0]) (by kernel_rfl) rfl (fun b13_7 => ?_))
   refine aHN ?_
   refine an rfl (aV 7 tk95 rfl rfl rfl rfl ?_)
   refine aHK ?_
   refine aA rfl (aNs (aSR (aM rfl (aU rfl (bZ rfl) (aNn ?_)))))
   refine al _ rfl (fun h3 => ?_) (fun h3 => ?_)
   ·skip
    refine aH (jK (mu (cO m2 g.name cp)) (xb (.of (aF 4 rfl)) (.of (aF 0 rfl))) (aj (aM rfl ?_)))
    refine aU rfl (qFA (off := 0) rfl) ?_
    refine aU rfl (ah 5 tk9 rfl rfl rfl) (aU rfl (ah 6 tk95 rfl rfl rfl) ?_)
    refine an rfl (dQ (k := g.name) (v := cp) 0 Tryz.underlying88 (kyT) rfl rfl rfl rfl ?_)
    refine aHK ?_
    refine aNn (aX (aY (bf (az (aj ?_)))))
    refine aU rfl (bd rfl rfl (by omega)) ?_
    refine aM rfl (aNn ?_)
    refine ⟨[0, 4, 5, 6, 7, 8, 9, 19, 20, 21, 32, 33, 34], [5, 9, 3, 2, 1, 0], [0, 1, 2, 3, 4], rfl, ?_⟩
    exact ⟨(j + 1, ((dv2, df2), (cO m2 g.name cp, ks))), ⟨⟨by dsimp only; omega, by dsimp only; omega, hks⟩, rfl⟩, by dsimp only; omega⟩
   ·skip
    have hsome : (m2 g.name).isSome = true := by simpa using h3
    refine aq (az (aH (aH ?_)))
    refine bA (.of (aF 1 rfl)) (fun hsl2 => ?_)
    refine aj (aM rfl (aU rfl (aZ Tryz.underlying90 rfl) (aM rfl (aNn (aI (aT [0, 4, 5, 6, 7, 8, 9, 11, 13, 14, 19, 20, 21, 32, 33, 34, 58, 59, 60] [8, 7, 5, 4, 3, 2, 1, 0] [0, 1, 2, 3, 4, 5, 6, 7] (fun (q : Nat × List Bool) st => (q.1 ≤ sl.l.length ∧ q.2.length = o.secs.l.length) ∧ st = ⟨[(0, true, os.val), (4, true, kv), (5, true, dv2), (6, true, .map (some b3_0)), (7, true, .int .i64 i), (8, true, .pointer (some ⟨b6_3, 0, none⟩)), (9, true, r7), (11, true, .pointer (some ⟨b10_2, 0, none⟩)), (13, true, .pointer (some ⟨b12_4, 0, none⟩)), (14, true, .pointer (some ⟨b13_7, 0, none⟩)), (19, true, os.val), (20, true, .int .i64 os.l.length), (21, true, .int .i64 i), (32, true, o.groups.val), (33, true, .int .i64 o.groups.l.length), (34, true, .int .i64 j), (58, true, sl.val), (59, true, .int .i64 sl.l.length), (60, true, .int .i64 q.1)], [cp.ok, ShF gJ sl, cv (ShF bR) K, mu m2, dG, dF, ShF ax.row os, cv ax.ok os.l], [dg b3_0 eS Cp.val m2, bg kv 68 1 (K.map slR), bg dv2 100 3 (df2.map tq), Box b6_3 61 o.vs, bg r7 4 1 (q.2.map bR), Box b10_2 92 g.vs, Box b12_4 95 cp.vs, Box b13_7 95 ((m2 g.name).getD cp0).vs]⟩) (fun q => sl.l.length - q.1) rfl (⟨(0, ks), ⟨Nat.zero_le _, hks⟩, rfl⟩) ?_))))))
    rintro ⟨kk, ks3⟩ st ⟨⟨hkk, hks3⟩, rfl⟩
    dsimp only at hkk hks3 ⊢
    refine aSR (aU rfl (bw rfl rfl) (aNs ?_))
    refine al _ rfl (fun h4 => ?_) (fun h4 => ?_)
    ·skip
     have hkk' : kk < sl.l.length := by simpa using h4
     obtain ⟨z, hzk⟩ : ∃ z, sl.l[kk]? = some z := ⟨_, List.getElem?_eq_getElem hkk'⟩
     have hzr := hgr.2 z (by rw [← hsl]; exact List.mem_of_getElem? hzk)
     obtain ⟨z0, rfl⟩ := Int.eq_ofNat_of_zero_le hzr.1
     obtain ⟨bb, hbb⟩ : ∃ bb, ks3[z0]? = some bb := ⟨_, List.getElem?_eq_getElem (by omega)⟩
     refine aq (az (aH (aI (aSR ?_))))
     refine cJ true rfl rfl (fun _ => av Tryz.underlying90 tk3 rfl ((.of (aF 1 rfl))) rfl (aQ hzk) rfl rfl) (fun h => absurd h (by decide)) (fun ⟨b18_0, o18_0⟩ => ?_)
     refine aU rfl (aP (o := 0) tk3 rfl (aF 0 rfl) rfl rfl) (aA rfl (aNn (aj (aM rfl (aM rfl ?_)))))
     refine aU rfl (fM 4 z0 el68 rfl rfl rfl rfl (by rw [List.length_map]; omega)) ?_
     refine an (q := false) rfl (eK 4 z0 0 tk4 rfl rfl rfl (aQ hbb) rfl (.v rfl .nil) rfl (by decide) ?_)
     refine cn (bB (az (aj ?_)))
     refine aU rfl (bd rfl rfl (by omega)) ?_
     refine aM rfl (aNn ?_)
     refine ⟨[0, 4, 5, 6, 7, 8, 9, 11, 13, 14, 19, 20, 21, 32, 33, 34, 58, 59, 60], [7, 6, 5, 4, 3, 2, 1, 0], [0, 1, 2, 3, 4, 5, 6, 7], rfl, ?_⟩
     exact ⟨(kk + 1, ks3.set z0 false), ⟨⟨by dsimp only; omega, by dsimp only; rw [List.length_set]; exact hks3⟩, by dsimp only; rw [List.map_set]; rfl⟩, by dsimp only; omega⟩
    ·skip
     refine aX (aY (aY (bf (az (aSR (aU rfl (ah 7 tk95 rfl rfl rfl) (aU rfl (ah 6 tk95 rfl rfl rfl) ?_)))))))
     refine bT (caps := []) [7, 4] (false) (by kernel_rfl) true rfl rfl (fun _ => rfl) (fun hc => rfl) (fun hc => by rw [List.append_nil]; exact (xi ((m2 g.name).getD cp0) cp).pre (rD (wW (.of (aF 1 rfl)) hsome) (.of (aF 0 rfl)))) (fun c5 hc5 => ?_)
     refine aU rfl (bZ rfl) (aNn ?_)
     refine al _ rfl (fun h5 => ?_) (fun h5 => ?_)
     ·skip
      refine aj (aM rfl ?_)
      refine aU rfl (qFA (off := 0) rfl) ?_
      refine aU rfl (ah 5 tk9 rfl rfl rfl) ?_
      refine aU rfl (qFA (off := 0) rfl) ?_
      refine aU rfl (ah 7 tk3 rfl rfl rfl) (aM rfl ?_)
      refine aU rfl (dz (l := [(0, .tmp 74), (1, .tmp 76), (2, .tmp 77)]) (zs := [.string .empty, .int .i64 0, .int .i64 0]) (pl := [(0, 1), (1, 1), (2, 1)]) (by kernel_rfl) (by kernel_rfl) (by kernel_rfl) rfl rfl rfl) ?_
      refine an (q := true) rfl (cB (zs := [.string .empty, .int .i64 0, .int .i64 0]) (l := [(0, .tmp 78)]) el28 (by kernel_rfl) (by decide) (by decide) (by decide) rfl rfl rfl (.more rfl (.v rfl (.v rfl (.v rfl .nil))) .nil) rfl rfl (fun v22_7 => ?_))
      refine aHN ?_
      refine an rfl (cL 2 el28 rfl rfl rfl rfl (dR 8 el28 rfl (by simp)) (by first | assumption | simp) (by have := hfo.groups; show (df2.map tq).length + 1 ≤ _; rw [List.length_map]; exact Nat.le_trans (show df2.length + 1 ≤ 2000000 by omega) (by decide)) ((df2.length + 1)) (by show (df2.map tq).length + 1 = _; rw [List.length_map]) (fun v22_8 c22_8 => ?_))
      refine aHK ?_
      refine aA rfl (cn (bB (az (aj ?_))))
      refine aU rfl (bd rfl rfl (by omega)) ?_
      refine aM rfl (aNn ?_)
      refine ⟨[0, 4, 5, 6, 7, 8, 9, 19, 20, 21, 32, 33, 34], [5, 4, 3, 2, 1, 0], [0, 1, 2, 3, 4], rfl, ?_⟩
      exact ⟨(j + 1, ((_, df2 ++ [(g.name, (((m2 g.name).getD cp0).obj, (i : Int)))]), (m2, ks3))), ⟨⟨by dsimp only; omega, by dsimp only; rw [List.length_append]; simp; omega, hks3⟩, by dsimp only; rw [List.map_append]; rfl⟩, by dsimp only; omega⟩
     ·skip
      refine aq (bB (az (aj ?_)))
      refine aU rfl (bd rfl rfl (by omega)) ?_
      refine aM rfl (aNn ?_)
      refine ⟨[0, 4, 5, 6, 7, 8, 9, 19, 20, 21, 32, 33, 34], [5, 4, 3, 2, 1, 0], [0, 1, 2, 3, 4], rfl, ?_⟩
      exact ⟨(j + 1, ((dv2, df2), (m2, ks3))), ⟨⟨by dsimp only; omega, by dsimp only; omega, hks3⟩, rfl⟩, by dsimp only; omega⟩
  ·skip
   refine aX (aY (aY (bf (az ?_))))
   refine iv 4 rfl (fun ka kc hv => ?_)
   rw [List.length_map] at hv
   subst hv
   refine eC 4 (ShF bR ⟨ka, kc, ks⟩) rfl (fun _ _ _ h => eO h) (jK (cv (ShF bR) (K ++ [⟨ka, kc, ks⟩])) (wZ (.of (aF 1 rfl)) (.of (aF 0 rfl))) ?_)
   show awp _ _ _ _ ⟨_, [_, _, _, _, _, _, _, _], [_, _, _, _, _]⟩
   refine aj (aM rfl (aM rfl ?_))
   refine an (q := true) rfl (cB (zs := [.slice none 0 0]) (l := [(0, .tmp 83)]) el27 (by kernel_rfl) (by decide) (by decide) (by decide) rfl rfl rfl (.more rfl (.v rfl .nil) .nil) rfl rfl (fun v24_2 => ?_))
   refine aHN ?_
   refine an rfl (cL 1 el27 rfl rfl rfl rfl (dR 5 el27 rfl (by simp)) (by first | assumption | simp) (by show (K.map slR).length + 1 ≤ _; rw [List.length_map]; exact Nat.le_trans (show K.length + 1 ≤ 1001 by omega) (by decide)) ((K.length + 1)) (by show (K.map slR).length + 1 = _; rw [List.length_map]) (fun v24_3 c24_3 => ?_))
   refine aHK ?_
   refine aA rfl (cn (bB (az (aj ?_))))
   refine aU rfl (bd rfl rfl (by omega)) ?_
   refine aM rfl (aNn ?_)
   refine ⟨[0, 4, 5, 6, 19, 20, 21], [7, 4, 3, 2, 1, 0], [0, 1, 2], rfl, ?_⟩
   have hje : j = o.groups.l.length := by simp at h2; omega
   have hgg := hfo.groups
   refine ⟨(i + 1, ((_, K ++ [⟨ka, kc, ks⟩]), ((dv2, df2), m2))), ⟨⟨by dsimp only; omega, by dsimp only; rw [List.length_append, hK]; rfl, ?_, by dsimp only; omega⟩, by dsimp only; rw [List.map_append]; rfl⟩, by dsimp only; omega⟩
   dsimp only
   have := xz (os := os.l) (K := K) (s := ⟨ka, kc, ks⟩) (by rw [hK]; exact hKl) (by rw [hK, hoo]; exact hks)
   rw [hK] at this; exact this
 ·skip
  refine aX (aY (aY (bf (az (aH ?_)))))
  refine iv 1 rfl (fun ka kc hv => ?_)
  rw [List.length_map] at hv
  subst hv
  have hie : i = os.l.length := by simp at h1; omega
  refine aj (aM rfl (aM rfl (aA rfl (aA rfl (aNn (aJ ?_))))))
  refine aaD [5] [1] rfl Tryz.results12 rfl rfl ?_ (.inr rfl)
  exact ⟨ka, kc, K, dv, rfl, by omega, (by rw [← hie]; exact hKl), rfl, rfl⟩
end Go.Proofs.YtgmiihmahaahiaaGreatDoor

namespace Go.Proofs.YtgmiihmahaahiaaGreatDoor
open Go.RowKit Go.Lp Go.Sy
def lA (vs : List aW) (s : ByteArray) : Option Nat := vs.findIdx? fun d => decide (d.name = s)
def kN (vs : List aW) (s : ByteArray) : List ByteArray := match lA vs s with
 | some i => (elt vs (i : Int)).parents.l
 | none => []
inductive Srv (vs : List aW) (a : ByteArray) : ByteArray → Prop where
 | refl : Srv vs a a
 | step {b c : ByteArray} (h : Srv vs a b) (hc : c ∈ kN vs b) : Srv vs a c
section
variable {vs : List aW}
theorem Srv.trans {a b c : ByteArray} (h : Srv vs a b) (k : Srv vs b c) : Srv vs a c := by
 induction k with
 | refl => exact h
 | step _ hc ih => exact .step ih hc
def univ (vs : List aW) (v : ByteArray) : List ByteArray := v :: vs.flatMap fun d => d.parents.l
theorem y7 {v s c : ByteArray} (h : c ∈ kN vs s) : c ∈ univ vs v := by
 unfold kN at h
 cases hi : lA vs s with
 | none => rw [hi] at h; cases h
 | some i =>
   rw [hi] at h
   dsimp only at h
   unfold lA at hi
   have hl : i < vs.length := by
     rw [List.findIdx?_eq_some_iff_getElem] at hi; exact hi.1
   exact List.mem_cons_of_mem _ (List.mem_flatMap.2 ⟨_, List.mem_of_getElem? (bM hl), h⟩)
def left {α : Type} [DecidableEq α] (U l : List α) : Nat := U.countP fun x => decide (x ∉ l)
theorem wv {α : Type} [DecidableEq α] {U l l2 : List α} (h : ∀ x ∈ l, x ∈ l2) : left U l2 ≤ left U l := by
 unfold left
 refine List.countP_mono_left fun x _ hx => ?_
 simp only [decide_eq_true_eq] at hx ⊢
 exact fun hh => hx (h x hh)
theorem aaQ {α : Type} [DecidableEq α] {U l : List α} {s : α} (hU : s ∈ U) (hs : s ∉ l) : left U (l ++ [s]) < left U l := by
 induction U with
 | nil => cases hU
 | cons a U ih =>
   unfold left at *
   rw [List.countP_cons, List.countP_cons]
   have hle : U.countP (fun x => decide (x ∉ l ++ [s])) ≤ U.countP (fun x => decide (x ∉ l)) := wv (U := U) fun x hx => List.mem_append_left _ hx
   rcases List.mem_cons.1 hU with rfl | h
   · rw [if_neg (by simp), if_pos (by simpa using hs)]; omega
   · have := ih h
     by_cases ha : a ∉ l ++ [s]
     · rw [if_pos (by simpa using ha), if_pos (by simp at ha ⊢; exact ha.1)]; omega
     · rw [if_neg (by simpa using ha)]; omega
structure Vis (vs : List aW) (s : ByteArray) (l l2 : List ByteArray) : Prop where
 sub : ∀ x ∈ l, x ∈ l2
 self : s ∈ l2
 from_ : ∀ x ∈ l2, x ∈ l ∨ Srv vs s x
 closed : ∀ x ∈ l2, x ∉ l → ∀ c ∈ kN vs x, c ∈ l2
theorem Vis.hit {s : ByteArray} {l : List ByteArray} (h : s ∈ l) : Vis vs s l l := ⟨fun _ h => h, h, fun _ h => .inl h, fun _ h h2 => (h2 h).elim⟩
structure qL (vs : List aW) (s : ByteArray) (l l2 : List ByteArray) (k : Nat) : Prop where
 sub : ∀ x ∈ l ++ [s], x ∈ l2
 from_ : ∀ x ∈ l2, x ∈ l ∨ Srv vs s x
 closed : ∀ x ∈ l2, x ∉ l → x ≠ s → ∀ c ∈ kN vs x, c ∈ l2
 done : ∀ c ∈ (kN vs s).take k, c ∈ l2
theorem qL.start {s : ByteArray} {l : List ByteArray} : qL vs s l (l ++ [s]) 0 := ⟨fun _ h => h, fun _ h => (List.mem_append.1 h).imp id fun h => by rw [List.mem_singleton.1 h]; exact .refl, fun _ h h1 h2 => by
 rcases List.mem_append.1 h with h | h
 · exact (h1 h).elim
 · exact (h2 (List.mem_singleton.1 h)).elim, fun c h => by rw [List.take_zero] at h; cases h⟩
theorem qL.step {s p : ByteArray} {l l2 l3 : List ByteArray} {k : Nat} (h : qL vs s l l2 k) (hp : (kN vs s)[k]? = some p) (hv : Vis vs p l2 l3) : qL vs s l l3 (k + 1) where
 sub x hx := hv.sub x (h.sub x hx)
 from_ x hx := by
   rcases hv.from_ x hx with h1 | h1
   · exact h.from_ x h1
   · exact .inr ((Srv.step .refl (List.mem_of_getElem? hp)).trans h1)
 closed x hx h1 h2 c hc := by
   by_cases hx2 : x ∈ l2
   · exact hv.sub c (h.closed x hx2 h1 h2 c hc)
   · exact hv.closed x hx hx2 c hc
 done c hc := by
   rw [List.take_add_one, hp, List.mem_append] at hc
   rcases hc with hc | hc
   · exact hv.sub c (h.done c hc)
   · simp at hc; subst hc; exact hv.self
theorem qL.fin {s : ByteArray} {l l2 : List ByteArray} {k : Nat} (h : qL vs s l l2 k) (hk : (kN vs s).length ≤ k) : Vis vs s l l2 where
 sub x hx := h.sub x (List.mem_append_left _ hx)
 self := h.sub s (by simp)
 from_ := h.from_
 closed x hx h1 c hc := by
   by_cases hs : x = s
   · subst hs; exact h.done c (by rw [List.take_of_length_le hk]; exact hc)
   · exact h.closed x hx h1 hs c hc
theorem Vis.all {s : ByteArray} {l2 : List ByteArray} (h : Vis vs s [] l2) (x : ByteArray) : x ∈ l2 ↔ Srv vs s x := by
 constructor
 · intro hx
   rcases h.from_ x hx with h1 | h1
   · cases h1
   · exact h1
 · intro hx
   induction hx with
   | refl => exact h.self
   | step _ hc ih => exact h.closed _ ih (by simp) _ hc
structure pF (vs : List aW) (v : ByteArray) (l : List ByteArray) (i k : Nat) : Prop where
 nd : l.Nodup
 first : v ∈ l
 from_ : ∀ x ∈ l, Srv vs v x
 uni : ∀ x ∈ l, x ∈ univ vs v
 done : ∀ (j : Nat) (x : ByteArray), l[j]? = some x → j < i → ∀ c ∈ kN vs x, c ∈ l
 now : ∀ x, l[i]? = some x → ∀ c ∈ (kN vs x).take k, c ∈ l
theorem pF.fin {v : ByteArray} {l : List ByteArray} {i k : Nat} (h : pF vs v l i k) (hi : l.length ≤ i) (x : ByteArray) : x ∈ l ↔ Srv vs v x := by
 refine ⟨h.from_ x, fun hx => ?_⟩
 induction hx with
 | refl => exact h.first
 | step _ hc ih =>
   obtain ⟨j, hj⟩ := List.mem_iff_getElem?.1 ih
   exact h.done j _ hj (by have := (List.getElem?_eq_some_iff.1 hj).1; omega) _ hc
end
end Go.Proofs.YtgmiihmahaahiaaGreatDoor

