/- Parts of the proof, in build order. No condition. -/
import Derived.Test.YtahgkiicjohonaaGreatXa27
import Derived.Test.YtahgkiicjohonaaGreatXa18
import Derived.Test.YtahgkiicjohonaaGreatXa05
import Derived.Test.YtahgkiicjohonaaGreatXa09
import Derived.Test.YtahgkiicjohonaaGreatXa23
import Derived.Test.YtahgkiicjohonaaGreatXa24
set_option linter.unusedSimpArgs false
set_option linter.unusedVariables false
set_option maxHeartbeats 1000000
set_option maxRecDepth 20000
namespace Go.Proofs.YtahgkiicjohonaaGreat
open Go.RowKit Go.Lp Go.Sy
open Go.Proofs.Tryz
attribute [local irreducible] aL aB awp aC fwp Quiet
theorem ac9 (n : Nat) : ((n : Int)).tmod 136 = ((n % 136 : Nat) : Int) := rfl
theorem aag (s : ByteArray) (hs : s.size ≤ 1000000) : Con Tryz.prog 51 [.string s] [] [] (YN Value.string fun t => t.size = 32) := by
 obtain ⟨M, hM⟩ : ∃ M, M = (s.size + 136) / 136 * 136 := ⟨_, rfl⟩
 refine EN1 Tryz.func51 rfl (aSR (aA rfl (aNn (aSR (aM rfl (LT rfl (uy Tryz.underlying9 Tryz.underlying67 Tryz.underlying5 (by omega) rfl rfl (fun vb => (aHN ?_)))))))))
 refine LT rfl (WL (zs := [.int .u8 0]) el67 rfl rfl rfl (.more rfl (.v rfl .nil) .nil) rfl rfl (fun v1_2 => (aHN ?_)))
 refine LF rfl (se (u := 6) 0 1 el67 el67 (by kernel_rfl) rfl rfl rfl rfl rfl (by omega) (fun vb2 => (aHK ?_)))
 refine aA rfl (aNs (aq (aQ [3] [] [0] (fun (q : Nat) st => (q ≤ M ∧ 1 ≤ q) ∧ ∃ v, st = ⟨[(3, true, v)], [], [ByV v q]⟩) (fun q => M - q) rfl (⟨s.size + 1, ⟨by omega, by omega⟩, _, rfl⟩) ?_)))
 rintro q st ⟨⟨hqM, hq1⟩, v, rfl⟩
 refine aj (aSR (aM rfl (aU rfl (tp 0 Tryz.underlying67 rfl rfl) (aU rfl (iF rfl rfl (by decide)) (aU rfl (eG rfl rfl) (aNn ?_))))))
 refine ao _ rfl (fun h1 => ?_) (fun h1 => ?_)
 ·skip
  have hq : q % 136 ≠ 0 := by rw [ac9] at h1; simp at h1; omega
  refine ar (an (aq (aa (aM rfl (LT rfl (WL (zs := [.int .u8 0]) el67 rfl rfl rfl (.more rfl (.v rfl .nil) .nil) rfl rfl (fun v3_1 => (aHN ?_))))))))
  refine LF rfl (se (u := 0) 0 1 el67 el67 (by kernel_rfl) rfl rfl rfl rfl rfl (by omega) (fun vb3 => (aHK ?_)))
  refine aA rfl (bS (bA (an ?_)))
  refine ⟨[3], [], [0], rfl, ?_⟩
  exact ⟨q + 1, ⟨⟨by omega, by omega⟩, vb3, rfl⟩, by omega⟩
 ·skip
  have hq : q % 136 = 0 := by rw [ac9] at h1; simp at h1; omega
  refine aR (aS (aS (aZ (an (aSR (aM rfl (aM rfl (aU rfl (tp 0 Tryz.underlying67 rfl rfl) (aU rfl (cU rfl rfl (by omega)) (aM rfl (aM rfl (aU rfl (tp 0 Tryz.underlying67 rfl rfl) (aU rfl (cU rfl rfl (by omega)) (aU rfl (xy 0 (q - 1) el67 rfl rfl rfl (by omega) (by omega)) ?_))))))))))))))
  refine iD true rfl rfl (fun _ => abY 0 tk5 rfl rfl (by omega)) (fun h => absurd h (by decide)) (fun u => ?_)
  obtain ⟨u2, hu2⟩ := xQ ((u.toNat : Int) + 128)
  refine aU rfl ((rv rfl rfl).castV (v' := .int .u8 u2.toNat) (congrArg (Value.int .u8) hu2)) (aU rfl (xy 0 (q - 1) el67 rfl rfl rfl (by omega) (by omega)) (LF rfl (aaJ 0 tk5 rfl rfl rfl (by omega) (aNn (aSR (LT rfl (gR (m := 25) (zs := [.int .u64 0]) el221 (by kernel_rfl) rfl (by decide) (dP rfl (rfl)) (dP rfl (rfl)) (by omega) rfl (fun v5_0 => (aHN ?_)))))))))
  refine aA rfl (aNs (aj ?_))
  refine iG 1 (aN _ _ 1 ((List.replicate 25 (0 : Int)).map gl)) rfl (fun _ _ _ h => by rw [List.map_replicate]; exact h) ?_
  refine wU 0 rfl (aa (aA rfl (aNn (aq (aQ [3, 4, 5] [1] [1] (fun (p : Nat) st => 136 * p ≤ q ∧ ∃ (va : Value) (al : List Int), al.length = 25 ∧ st = ⟨[(3, true, v), (4, true, va), (5, true, .int .i64 (136 * p : Nat))], [ByF v q], [aN va 222 1 (al.map gl)]⟩) (fun p => q - p) rfl (⟨0, Nat.zero_le _, _, List.replicate 25 0, List.length_replicate, rfl⟩) ?_)))))
  rintro p st ⟨hp0, va, al, hal, rfl⟩
  refine aj (aSR (aM rfl (aM rfl (aU rfl (adK (aD 0 rfl) Tryz.underlying67 rfl) (aU rfl (bD rfl rfl) (aNn ?_))))))
  refine ao _ rfl (fun h2 => ?_) (fun h2 => ?_)
  ·skip
   have hpq : 136 * p < q := by simp at h2; omega
   have hpq2 : 136 * p + 136 ≤ q := by omega
   refine ar (an (aj (aq (aj (aSR (aA rfl (aNn (aq (aQ [3, 4, 5, 6] [0] [0] (fun (i : Nat) st => i ≤ 17 ∧ ∃ (al : List Int), al.length = 25 ∧ st = ⟨[(3, true, v), (4, true, va), (5, true, .int .i64 (136 * p : Nat)), (6, true, .int .i64 i)], [ByF v q], [aN va 222 1 (al.map gl)]⟩) (fun i => 17 - i) rfl (⟨0, Nat.zero_le _, al, hal, rfl⟩) ?_)))))))))
   clear hal
   rintro i st ⟨hi, al, hal, rfl⟩
   refine aj (aSR (aM rfl (aU rfl (bD rfl rfl) (aNn ?_))))
   refine ao _ rfl (fun h3 => ?_) (fun h3 => ?_)
   ·skip
    have hi' : i < 17 := by simp at h3; omega
    obtain ⟨z0, hz0⟩ : ∃ z, al[i]? = some z := ⟨_, List.getElem?_eq_getElem (by omega)⟩
    refine ar (an (aj (aq (DR [14] 15 (VM 0 rfl rfl (VM 1 rfl rfl (VM 2 rfl rfl (VM 3 rfl rfl ?_))))))))
    refine bV 4 rfl rfl (ca 0 i el221 rfl rfl rfl rfl (by rw [List.length_map]; omega)) ?_
    refine bV 5 rfl rfl (bJ 0 i 0 tk222 rfl rfl (aI hz0) rfl rfl) (VM 6 rfl rfl (VM 7 rfl rfl (VM 8 rfl rfl (bV 9 rfl rfl (gw rfl rfl (by omega)) (bV 10 rfl rfl ((aX rfl rfl (by omega)).castV (v' := .int .i64 (136 * p + 8 * i : Nat)) (congrArg (Value.int .i64) (by omega))) ?_)))))
    refine vD (caps := []) 11 rfl (by kernel_rfl) [0] ((0 : Int)) (by kernel_rfl) true rfl rfl (fun _ => rfl) (fun hc => rfl) (fun hc => by rw [List.append_nil]; exact xb v q (136 * p + 8 * i) (by omega) (by omega)) (fun zl hzl => ?_)
    refine bV 12 rfl rfl (j9 rfl rfl) ?_
    refine bV 13 rfl rfl (ca 0 i el221 rfl rfl rfl rfl (by rw [List.length_map]; omega)) ?_
    refine VE 14 rfl rfl (dC 0 i 0 tk222 rfl rfl rfl (aI hz0) rfl (.v rfl .nil) rfl (by decide) (bST rfl ?_))
    refine BN (bA (an ?_))
    refine lB 0 (fun x : {l : List Int // l.length = 25} => aN va 222 1 (x.1.map gl)) rfl (fun w S F h => ⟨⟨al.set i _, by rw [List.length_set]; exact hal⟩, by rw [List.map_set]; exact h⟩) (fun ⟨al2, hal2⟩ => ?_)
    refine aa (aM rfl (aU rfl (aX rfl rfl (by omega)) (aA rfl (aNn ?_))))
    refine ⟨[3, 4, 5, 6], [0], [0], rfl, ?_⟩
    exact ⟨i + 1, ⟨by omega, al2, hal2, rfl⟩, by omega⟩
   ·skip
    refine aR (aS (aS (aZ (an (aSR (aA rfl (aNn (aq (aQ [3, 4, 5, 7] [0] [0] (fun (i : Nat) st => i ≤ 24 ∧ ∃ (va : Value) (al : List Int), al.length = 25 ∧ st = ⟨[(3, true, v), (4, true, va), (5, true, .int .i64 (136 * p : Nat)), (7, true, .int .i64 i)], [ByF v q], [aN va 222 1 (al.map gl)]⟩) (fun i => 24 - i) rfl (⟨0, Nat.zero_le _, va, al, hal, rfl⟩) ?_)))))))))
    clear hal
    rintro j st ⟨hj, va, al, hal, rfl⟩
    refine aj (aSR (aM rfl (aU rfl (bD rfl rfl) (aNn ?_))))
    refine ao _ rfl (fun h4 => ?_) (fun h4 => ?_)
    ·skip
     have hj' : j < 24 := by simp at h4; omega
     refine ar (an (aj (aq (aa (aM rfl (aM rfl ?_))))))
     refine eT (caps := []) [] ((0 : Int)) (by kernel_rfl) true rfl rfl (fun _ => rfl) (fun hc => rfl) (fun hc => by rw [List.append_nil]; exact uM j hj') (fun zc hzc => ?_)
     refine LF rfl (EC [] [0] rfl (u7 va al hal zc) ?_)
     rintro r2 _ _ ⟨rfl, al2, hal2, rfl⟩
     refine aST ?_
     refine aA rfl (bS (bA (an (aa (aM rfl (aU rfl (aX rfl rfl (by omega)) (aA rfl (aNn ?_))))))))
     refine ⟨[3, 4, 5, 7], [0], [0], rfl, ?_⟩
     exact ⟨j + 1, ⟨by omega, r2, al2, hal2, rfl⟩, by omega⟩
    ·skip
     refine aR (aS (aS (aZ (bA (an (aa (aM rfl (aU rfl (aX rfl rfl (by omega)) (aA rfl (aNn ?_))))))))))
     refine ⟨[3, 4, 5], [0], [0], rfl, ?_⟩
     refine ⟨p + 1, ⟨by omega, va, al, hal, ?_⟩, by omega⟩
     rw [show ((136 * (p + 1) : Nat) : Int) = ((136 * p : Nat) : Int) + 136 by omega]
     rfl
  ·skip
   refine aR (aS (aS (aZ (an (aSR (aA rfl (aNs (aj (eH 5 1 ?_)))))))))
   show awp _ _ _ _ ⟨_, _, [_, _]⟩
   refine aa (aA rfl (aNn (aq (aQ [4, 8, 9] [] [0, 1] (fun (i : Nat) st => i ≤ 4 ∧ ∃ (vo : Value) (ol : List UInt8), ol.length = 8 * i ∧ st = ⟨[(4, true, va), (8, true, vo), (9, true, .int .i64 i)], [], [aN va 222 1 (al.map gl), aN vo 5 1 (ol.map cX)]⟩) (fun i => 4 - i) rfl (⟨0, Nat.zero_le _, _, [], rfl, rfl⟩) ?_))))
   rintro i st ⟨hi, vo, ol, hol, rfl⟩
   refine aj (aSR (aM rfl (aU rfl (bD rfl rfl) (aNn ?_))))
   refine ao _ rfl (fun h5 => ?_) (fun h5 => ?_)
   ·skip
    have hi' : i < 4 := by simp at h5; omega
    obtain ⟨z0, hz0⟩ : ∃ z, al[i]? = some z := ⟨_, List.getElem?_eq_getElem (by omega)⟩
    refine ar (an (aj (aq (aSR (aM rfl (aM rfl ?_))))))
    refine aU rfl (ca 0 i el221 rfl rfl rfl rfl (by rw [List.length_map]; omega)) ?_
    refine aU rfl (bJ 0 i 0 tk222 rfl rfl (aI hz0) rfl rfl) (aA rfl (aNn (aSR (aA rfl (bS (an (aq (aQ [4, 8, 9, 10, 11] [] [0, 1] (fun (k : Nat) st => k ≤ 8 ∧ ∃ (x : Int) (vo : Value) (ol : List UInt8), ol.length = 8 * i + k ∧ st = ⟨[(4, true, va), (8, true, vo), (9, true, .int .i64 i), (10, true, .int .u64 x), (11, true, .int .i64 k)], [], [aN va 222 1 (al.map gl), aN vo 5 1 (ol.map cX)]⟩) (fun k => 8 - k) rfl (⟨0, Nat.zero_le _, z0, vo, ol, hol, rfl⟩) ?_))))))))
    clear hol
    rintro k st ⟨hk, x, vo, ol, hol, rfl⟩
    refine aj (aSR (aM rfl (aU rfl (bD rfl rfl) (aNn ?_))))
    refine ao _ rfl (fun h6 => ?_) (fun h6 => ?_)
    ·skip
     have hk' : k < 8 := by simp at h6; omega
     obtain ⟨u3, hu3⟩ := xQ (x.tmod 256)
     refine ar (an (aj (aq (aSR (aM rfl (aM rfl (aU rfl (iF rfl rfl (by decide)) (aU rfl ((dh (by kernel_rfl) Tryz.underlying5 rfl).castV (v' := .int .u8 u3.toNat) (congrArg (Value.int .u8) hu3)) (LT rfl (WL (zs := [.int .u8 0]) el67 rfl rfl rfl (.more rfl (.v rfl .nil) .nil) rfl rfl (fun v25_4 => (aHN ?_))))))))))))
     refine aT rfl (cT 1 el67 rfl rfl rfl rfl (ea 2 el67 rfl (by simp)) (by first | assumption | simp) (by rw [List.length_map]; show ol.length + 1 ≤ _; omega) ((8 * i + k + 1)) (by rw [List.length_map, hol]; rfl) (fun v25_5 c25_5 => ?_))
     refine aHK ?_
     refine aA rfl (aNn (aa (aM rfl (aU rfl (vh rfl rfl (by decide)) (aA rfl (bS (bA (an (aa (aM rfl (aU rfl (aX rfl rfl (by omega)) (aA rfl (aNn ?_)))))))))))))
     refine ⟨[4, 8, 9, 10, 11], [], [0, 1], rfl, ?_⟩
     refine ⟨k + 1, ⟨by omega, ?_⟩, by omega⟩
     exact ⟨_, _, ol ++ [u3], by rw [List.length_append, hol]; rfl, by rw [List.map_append]; rfl⟩
    ·skip
     have hk8 : k = 8 := by simp at h6; omega
     subst hk8
     refine aR (aS (aS (aZ (bA (an (aa (aM rfl (aU rfl (aX rfl rfl (by omega)) (aA rfl (aNn ?_))))))))))
     refine ⟨[4, 8, 9], [], [0, 1], rfl, ?_⟩
     exact ⟨i + 1, ⟨by omega, vo, ol, by omega, rfl⟩, by omega⟩
   ·skip
    have hi4 : i = 4 := by simp at h5; omega
    subst hi4
    refine aR (aS (aS (aZ (an (aj ?_)))))
    refine jm 1 rfl (by intro h; rw [List.map_eq_nil_iff] at h; rw [h] at hol; cases hol) (fun B cp hv hcp => ?_)
    subst hv
    refine aa (aM rfl ?_)
    refine aU rfl (jP 1 ol Tryz.underlying67 Tryz.underlying5 Tryz.underlying9 rfl rfl rfl (by intro h; rw [h] at hol; cases hol)) ?_
    refine aA rfl (aNn (az (FZ1 [] Tryz.results51 rfl ?_)))
    exact ⟨⟨rfl, rfl⟩, _, rfl, hol⟩
end Go.Proofs.YtahgkiicjohonaaGreat

namespace Go.Sy
open Go.RowKit Go.Lp
theorem Ent.nl {α : Type} {ps : List Per} {row : α → List D} : Ent ps (ShF row ⟨none, 0, []⟩) := fun _ _ _ => .e none 0 (Nat.zero_le _)
theorem Ent.a0 {α : Type} {ps : List Per} {f : α → Per} : Ent ps (b7 f []) := fun _ _ _ _ h => by cases h
theorem Ent.a1 {α : Type} {ps : List Per} {f : α → Per} {x : α} {l : List α} (h : Ent ps (f x)) (hl : Ent ps (b7 f l)) : Ent ps (b7 f (x :: l)) := fun w S hp y hy => (List.mem_cons.1 hy).elim (fun e => by rw [e]; exact h w S hp) (hl w S hp y)
end Go.Sy
namespace Go.Proofs.YtahgkiicjohonaaGreat
open Go.RowKit Go.Lp Go.Sy Go.Lv
open Go.Proofs.Tryz
attribute [local irreducible] aL aB awp aC fwp Quiet
def vq (d : ByteArray) : bk := ⟨⟨#[97]⟩, ⟨#[116, 101, 120, 116]⟩, 0, 16, 8, d, .empty⟩
def ug (d : ByteArray) : bk := ⟨⟨#[97]⟩, ⟨#[100, 97, 116, 97]⟩, 1, 272, 16, d, .empty⟩
def plI : bY := { name := ⟨#[102]⟩, version := .empty, kind := 0, weak := false, own := false }
def aeJ : fm := { at_ := 256, kind := 3, import_ := 0, add := 0 }
def aeI : fm := { at_ := 272, kind := 0, import_ := -1, add := 16 }
def plX : bN := { name := ⟨#[109, 97, 105, 110]⟩, version := .empty, main := false, kind := 0, at_ := 16, size := 8 }
def nlS {α : Type} : Sl α := ⟨none, 0, []⟩
def cQ (d : ByteArray) (a0 a1 a2 a3 a4 : Option Addr) : ax where
 name := ⟨#[120]⟩
 lib := false
 code := 256
 data := 512
 zero := 768
 bytes := bytesOf (zsB 512)
 tls := .empty
 block := 0
 nodes := ⟨a0, 2, [vq d, ug d]⟩
 exports := ⟨a4, 1, [plX]⟩
 imports := ⟨a1, 1, [plI]⟩
 slots := ⟨a2, 1, [256]⟩
 stubs := nlS
 dyns := ⟨a3, 2, [aeJ, aeI]⟩
 inits := nlS
 lasts := nlS
 entry := 16
 needs := nlS
 versions := nlS
 info := ⟨nlS, nlS, nlS, nlS, nlS, nlS⟩
 changes := nlS
def plC (b : ByteArray) : List Value := [.string ⟨#[120]⟩, .bool false, .int .i64 256, .int .i64 512, .int .i64 768, .string b, .string .empty, .int .i64 0, .slice none 0 0, .slice none 0 0, .slice none 0 0, .slice none 0 0, .slice none 0 0, .slice none 0 0, .slice none 0 0, .slice none 0 0, .int .i64 16, .slice none 0 0, .slice none 0 0, .slice none 0 0, .slice none 0 0, .slice none 0 0, .slice none 0 0, .slice none 0 0, .slice none 0 0, .slice none 0 0]
def zC : List Value := ZI
theorem tZ : Con Tryz.prog 18 [] [] [] fun r ps hp => hp = [] ∧ ∃ (d : ByteArray) (a0 a1 a2 a3 a4 : Option Addr), d.size = 32 ∧ ps = [(cQ d a0 a1 a2 a3 a4).ok] ∧ r = (cQ d a0 a1 a2 a3 a4).val := by
 refine Con.enter Tryz.func18 rfl (by simp [Tryz.ntmps18]) ?_
 show awp _ _ _ _ ⟨[], _, _⟩
 refine aSR (LT rfl (bI (zs := ZI) (by kernel_rfl) rfl (fun b0_0 => (aHN ?_))))
 refine aNn (aSR ?_)
 refine eT (caps := []) [] ((.empty : ByteArray)) (by kernel_rfl) true rfl rfl (fun _ => rfl) (fun hc => rfl) (fun hc => by rw [List.append_nil]; exact aag .empty (by decide)) (fun d hd => ?_)
 refine aA rfl (aNn (aSR (aU rfl (fZ (l := [(0, .const (.string ⟨#[120]⟩)), (2, .const (.int .i64 256)), (3, .const (.int .i64 512)), (4, .const (.int .i64 768)), (16, .const (.int .i64 16))]) (zs := ZI) (pl := [(0, 1), (1, 1), (2, 1), (3, 1), (4, 1), (5, 1), (6, 1), (7, 1), (8, 1), (9, 1), (10, 1), (11, 1), (12, 1), (13, 1), (14, 1), (15, 1), (16, 1), (17, 1), (18, 1), (19, 6), (25, 1)]) (by kernel_rfl) (by kernel_rfl) (by kernel_rfl) rfl rfl rfl) (LT rfl (bI (zs := ZI) (by kernel_rfl) rfl (fun b2_1 => (aHN ?_)))))))
 refine aT rfl (bg 1 tk39 rfl rfl rfl rfl (aHK ?_))
 refine aNs (aSR (aA rfl (aNn (aq (aQ [0, 1, 2, 3] [] [0, 1] (fun (k : Nat) st => k ≤ 512 ∧ st = ⟨[(0, true, .pointer (some ⟨b0_0, 0, none⟩)), (1, true, .string d), (2, true, .pointer (some ⟨b2_1, 0, none⟩)), (3, true, .int .i64 k)], [], [Box b0_0 39 zC, Box b2_1 39 (plC (bytesOf (zsB k)))]⟩) (fun k => 512 - k) rfl (⟨0, Nat.zero_le _, rfl⟩) ?_)))))
 rintro k st ⟨hk, rfl⟩
 refine aj (aSR (aM rfl (aU rfl (bD rfl rfl) (aNn ?_))))
 refine ao _ rfl (fun h1 => ?_) (fun h1 => ?_)
 ·skip
  have hk' : k < 512 := by simp at h1; omega
  have hz : (bytesOf (zsB k)) ++ (⟨#[0]⟩ : ByteArray) = bytesOf (zsB (k + 1)) := by
    rw [show zsB (k + 1) = zsB k ++ [0] from List.replicate_succ', eb]; rfl
  refine ar (an (aj (aq (aa (UO 5 rfl rfl (UL 1 tk9 rfl rfl rfl rfl ?_))))))
  refine aU rfl ((kv rfl rfl (by show (zsB k).length + 1 ≤ _; rw [List.length_replicate]; exact Nat.le_trans (show k + 1 ≤ 512 by omega) (by decide))).castV (v' := .string (bytesOf (zsB (k + 1)))) (congrArg Value.string hz)) ?_
  refine UO 5 rfl rfl (aT rfl (bg 1 tk9 rfl rfl rfl rfl (aHK ?_)))
  refine bS (bA (an (aa (aM rfl (aU rfl (aX rfl rfl (by omega)) (aA rfl (aNn ?_)))))))
  refine ⟨[0, 1, 2, 3], [], [0, 1], rfl, ?_⟩
  exact ⟨k + 1, ⟨hk', rfl⟩, by omega⟩
 ·skip
  have hke : k = 512 := by simp at h1; omega
  subst hke
  refine aR (aS (aS (aZ (an (aSR (aM rfl (aU rfl (fZ (l := [(0, .const (.string ⟨#[97]⟩)), (1, .const (.string ⟨#[116, 101, 120, 116]⟩)), (2, .const (.int .i64 0)), (3, .const (.int .i64 16)), (4, .const (.int .i64 8)), (5, .tmp 14)]) (zs := [.string .empty, .string .empty, .int .i64 0, .int .i64 0, .int .i64 0, .string .empty, .string .empty]) (pl := [(0, 1), (1, 1), (2, 1), (3, 1), (4, 1), (5, 1), (6, 1)]) (by kernel_rfl) (by kernel_rfl) (by kernel_rfl) rfl rfl rfl) (aM rfl (aU rfl (fZ (l := [(0, .const (.string ⟨#[97]⟩)), (1, .const (.string ⟨#[100, 97, 116, 97]⟩)), (2, .const (.int .i64 1)), (3, .const (.int .i64 272)), (4, .const (.int .i64 16)), (5, .tmp 16)]) (zs := [.string .empty, .string .empty, .int .i64 0, .int .i64 0, .int .i64 0, .string .empty, .string .empty]) (pl := [(0, 1), (1, 1), (2, 1), (3, 1), (4, 1), (5, 1), (6, 1)]) (by kernel_rfl) (by kernel_rfl) (by kernel_rfl) rfl rfl rfl) (LT rfl (WL (zs := [.string .empty, .string .empty, .int .i64 0, .int .i64 0, .int .i64 0, .string .empty, .string .empty]) el22 rfl rfl rfl (.more rfl (.v rfl (.v rfl (.v rfl (.v rfl (.v rfl (.v rfl (.v rfl .nil))))))) (.more rfl (.v rfl (.v rfl (.v rfl (.v rfl (.v rfl (.v rfl (.v rfl .nil))))))) .nil)) rfl rfl (fun v7_4 => (aHN ?_)))))))))))))
  refine UO 8 rfl rfl (aT rfl (bg 1 tk22 rfl rfl rfl rfl (aHK ?_)))
  refine aNs (dW 2 rfl (aa (aU rfl (fZ (l := [(0, .const (.string ⟨#[102]⟩)), (2, .const (.int .i64 0))]) (zs := [.string .empty, .string .empty, .int .i64 0, .bool false, .bool false]) (pl := [(0, 1), (1, 1), (2, 1), (3, 1), (4, 1)]) (by kernel_rfl) (by kernel_rfl) (by kernel_rfl) rfl rfl rfl) (LT rfl (WL (zs := [.string .empty, .string .empty, .int .i64 0, .bool false, .bool false]) el24 rfl rfl rfl (.more rfl (.v rfl (.v rfl (.v rfl (.v rfl (.v rfl .nil))))) .nil) rfl rfl (fun v8_1 => (aHN ?_)))))))
  refine UO 10 rfl rfl (aT rfl (bg 1 tk24 rfl rfl rfl rfl (aHK ?_)))
  refine aNs (dW 3 rfl (aa (LT rfl (WL (zs := [.int .i64 0]) el25 rfl rfl rfl (.more rfl (.v rfl .nil) .nil) rfl rfl (fun v9_0 => (aHN ?_))))))
  refine UO 11 rfl rfl (aT rfl (bg 1 tk25 rfl rfl rfl rfl (aHK ?_)))
  refine aNs (dW 4 rfl (aa (aU rfl (fZ (l := [(0, .const (.int .i64 256)), (1, .const (.int .i64 3))]) (zs := [.int .i64 0, .int .i64 0, .int .i64 0, .int .i64 0]) (pl := [(0, 1), (1, 1), (2, 1), (3, 1)]) (by kernel_rfl) (by kernel_rfl) (by kernel_rfl) rfl rfl rfl) (aU rfl (fZ (l := [(0, .const (.int .i64 272)), (1, .const (.int .i64 0)), (2, .const (.int .i64 (-1))), (3, .const (.int .i64 16))]) (zs := [.int .i64 0, .int .i64 0, .int .i64 0, .int .i64 0]) (pl := [(0, 1), (1, 1), (2, 1), (3, 1)]) (by kernel_rfl) (by kernel_rfl) (by kernel_rfl) rfl rfl rfl) (LT rfl (WL (zs := [.int .i64 0, .int .i64 0, .int .i64 0, .int .i64 0]) el26 rfl rfl rfl (.more rfl (.v rfl (.v rfl (.v rfl (.v rfl .nil)))) (.more rfl (.v rfl (.v rfl (.v rfl (.v rfl .nil)))) .nil)) rfl rfl (fun v10_2 => (aHN ?_))))))))
  refine UO 13 rfl rfl (aT rfl (bg 1 tk26 rfl rfl rfl rfl (aHK ?_)))
  refine aNs (dW 5 rfl (aa (aU rfl (fZ (l := [(0, .const (.string ⟨#[109, 97, 105, 110]⟩)), (3, .const (.int .i64 0)), (4, .const (.int .i64 16)), (5, .const (.int .i64 8))]) (zs := [.string .empty, .string .empty, .bool false, .int .i64 0, .int .i64 0, .int .i64 0]) (pl := [(0, 1), (1, 1), (2, 1), (3, 1), (4, 1), (5, 1)]) (by kernel_rfl) (by kernel_rfl) (by kernel_rfl) rfl rfl rfl) (LT rfl (WL (zs := [.string .empty, .string .empty, .bool false, .int .i64 0, .int .i64 0, .int .i64 0]) el23 rfl rfl rfl (.more rfl (.v rfl (.v rfl (.v rfl (.v rfl (.v rfl (.v rfl .nil)))))) .nil) rfl rfl (fun v11_1 => (aHN ?_)))))))
  refine UO 9 rfl rfl (aT rfl (bg 1 tk23 rfl rfl rfl rfl (aHK ?_)))
  refine aNs (dW 6 rfl ?_)
  have hd32 : d.size ≤ 4611686018427387904 := by rw [hd rfl]; decide
  have n1 : ∀ ps, Ent ps (vq d).ok := fun _ => Ent.mk2 (Ent.str (Nat.le_of_ble_eq_true rfl)) (Ent.mk2 (Ent.str (Nat.le_of_ble_eq_true rfl)) (Ent.mk2 (Ent.str hd32) (Ent.str (Nat.le_of_ble_eq_true rfl))))
  have n2 : ∀ ps, Ent ps (ug d).ok := fun _ => Ent.mk2 (Ent.str (Nat.le_of_ble_eq_true rfl)) (Ent.mk2 (Ent.str (Nat.le_of_ble_eq_true rfl)) (Ent.mk2 (Ent.str hd32) (Ent.str (Nat.le_of_ble_eq_true rfl))))
  have hb : (bytesOf (zsB 512)).size ≤ 4611686018427387904 := by show (zsB 512).length ≤ _; rw [List.length_replicate]; decide
  refine aY (cQ d v7_4 v8_1 v9_0 v10_2 v11_1).ok (Ent.mk2 (Ent.str (Nat.le_of_ble_eq_true rfl)) (Ent.mk2 (Ent.str hb) (Ent.mk2 (Ent.str (Nat.le_of_ble_eq_true rfl)) (Ent.mk2 (.of (aD 4 rfl)) (Ent.mk2 (.a1 (n1 _) (.a1 (n2 _) .a0)) (Ent.mk2 (.of (aD 0 rfl)) (Ent.mk2 (.a1 (Ent.mk2 (Ent.str (Nat.le_of_ble_eq_true rfl)) (Ent.str (Nat.le_of_ble_eq_true rfl))) .a0) (Ent.mk2 (.of (aD 3 rfl)) (Ent.mk2 (.a1 (Ent.mk2 (Ent.str (Nat.le_of_ble_eq_true rfl)) (Ent.str (Nat.le_of_ble_eq_true rfl))) .a0) (Ent.mk2 (.of (aD 2 rfl)) (Ent.mk2 .nl (Ent.mk2 (.of (aD 1 rfl)) (Ent.mk2 .nl (Ent.mk2 .nl (Ent.mk2 .nl (Ent.mk2 .a0 (Ent.mk2 .nl (Ent.mk2 .a0 (Ent.mk2 (Ent.mk2 .nl (Ent.mk2 .a0 (Ent.mk2 .nl (Ent.mk2 .a0 (Ent.mk2 .nl (Ent.mk2 .nl (Ent.mk2 .a0 (Ent.mk2 .nl (Ent.mk2 .a0 .nl))))))))) (Ent.mk2 .nl .a0)))))))))))))))))))) (aa (UL 1 tk39 rfl rfl rfl rfl (aT rfl (bg 0 tk39 rfl rfl rfl rfl (aHK ?_)))))
  refine aNn (az ?_)
  refine abi [5] [] rfl Tryz.results18 (mM 0 tk39 rfl rfl rfl) ?_ (.inr rfl)
  exact ⟨rfl, d, v7_4, v8_1, v9_0, v10_2, v11_1, hd rfl, rfl, rfl⟩
section
variable (d : ByteArray) (a0 a1 a2 a3 a4 : Option Addr)
theorem abJ (hd : d.size = 32) : gT (cQ d a0 a1 a2 a3 a4) = true := by
 have b1 : ig (vq d) = false := by unfold ig vq; dsimp only; rw [hd]; kernel_rfl
 have b2 : ig (ug d) = false := by unfold ig ug; dsimp only; rw [hd]; kernel_rfl
 have i1 : vN (cQ d a0 a1 a2 a3 a4) (vq d) = true := by kernel_rfl
 have i2 : vN (cQ d a0 a1 a2 a3 a4) (ug d) = true := by kernel_rfl
 have hn : allI (fun _ x => gW (cQ d a0 a1 a2 a3 a4) x) 0 (cQ d a0 a1 a2 a3 a4).nodes.l = true := by
   show (gW (cQ d a0 a1 a2 a3 a4) (vq d) && (gW (cQ d a0 a1 a2 a3 a4) (ug d) && true)) = true
   unfold gW; rw [b1, b2, i1, i2]; rfl
 have h0 : lW (cQ d a0 a1 a2 a3 a4) = true := by kernel_rfl
 have h1 : iM (cQ d a0 a1 a2 a3 a4) = true := by
   unfold iM kV; rw [hn]; kernel_rfl
 have h2 : qq (cQ d a0 a1 a2 a3 a4) = true := by kernel_rfl
 have h3 : gQ (cQ d a0 a1 a2 a3 a4) = true := by kernel_rfl
 have h4 : lG (cQ d a0 a1 a2 a3 a4) = true := by kernel_rfl
 have h5 : sO (cQ d a0 a1 a2 a3 a4) = true := by kernel_rfl
 have h6 : ns (cQ d a0 a1 a2 a3 a4) true = true := by kernel_rfl
 have h7 : abB (cQ d a0 a1 a2 a3 a4) = true := by kernel_rfl
 have h8 : qt (cQ d a0 a1 a2 a3 a4) = true := by kernel_rfl
 unfold gT; rw [h0, h1, h2, h3, h4, h5, h6, h7, h8]; rfl
def acj : ax := { cQ d a0 a1 a2 a3 a4 with code := 8 }
theorem yW : gT (acj d a0 a1 a2 a3 a4) = false := by
 have h0 : lW (acj d a0 a1 a2 a3 a4) = false := by kernel_rfl
 unfold gT; rw [h0]; rfl
theorem aaf : iR (cQ d a0 a1 a2 a3 a4).versions.l := ⟨Nat.zero_le _, fun _ h => (by cases h), fun _ h => (by cases h)⟩
theorem adC : sT (cQ d a0 a1 a2 a3 a4).nodes.l := fun x hx => by
 rcases List.mem_cons.1 hx with rfl | hx
 · exact ⟨⟨by show (0 : Int) ≤ 16; decide, by show (16 : Int) ≤ 1048576; decide⟩, by show (0 : Int) ≤ 8; decide, by show (8 : Int) ≤ 1048576; decide⟩
 · rw [List.mem_singleton.1 hx]
   exact ⟨⟨by show (0 : Int) ≤ 272; decide, by show (272 : Int) ≤ 1048576; decide⟩, by show (0 : Int) ≤ 16; decide, by show (16 : Int) ≤ 1048576; decide⟩
theorem aaN : cI (cQ d a0 a1 a2 a3 a4) := by
 refine ⟨?_, ?_, ?_, ?_, ?_, ?_, ?_, ?_, ?_, ?_, ?_, ?_, ?_, ⟨?_, ?_, ?_, ?_, ?_, ?_⟩, ?_⟩
 · show Go.Lv.I64 256; decide
 · show Go.Lv.I64 512; decide
 · show Go.Lv.I64 768; decide
 · show Go.Lv.I64 0; decide
 · show Go.Lv.I64 16; decide
 · intro y hy
   rcases List.mem_cons.1 hy with rfl | hy
   · exact ⟨by show Go.Lv.I64 0; decide, by show Go.Lv.I64 16; decide, by show Go.Lv.I64 8; decide⟩
   · rw [List.mem_singleton.1 hy]; exact ⟨by show Go.Lv.I64 1; decide, by show Go.Lv.I64 272; decide, by show Go.Lv.I64 16; decide⟩
 · intro y hy; rw [List.mem_singleton.1 hy]; exact ⟨by show Go.Lv.I64 0; decide, by show Go.Lv.I64 16; decide, by show Go.Lv.I64 8; decide⟩
 · intro y hy; rw [List.mem_singleton.1 hy]; show Go.Lv.I64 0; decide
 · intro y hy; rw [List.mem_singleton.1 hy]; show Go.Lv.I64 256; decide
 · intro y hy; cases hy
 · intro y hy
   rcases List.mem_cons.1 hy with rfl | hy
   · exact ⟨by show Go.Lv.I64 256; decide, by show Go.Lv.I64 3; decide, by show Go.Lv.I64 0; decide, by show Go.Lv.I64 0; decide⟩
   · rw [List.mem_singleton.1 hy]; exact ⟨by show Go.Lv.I64 272; decide, by show Go.Lv.I64 0; decide, by show Go.Lv.I64 (-1); decide, by show Go.Lv.I64 16; decide⟩
 all_goals (intro y hy; cases hy)
theorem aeg (x : bk) (hx : ir x) (h1 : x.obj.size ≤ 100) (h2 : x.sec.size ≤ 100) (h3 : x.digest.size ≤ 100) (h4 : x.form.size ≤ 100) : (cV x).length ≤ 1000 := by
 have e : cV x = ak.enc x.obj ++ (ak.enc x.sec ++ (ai.enc x.kind ++ (ai.enc x.at_ ++ (ai.enc x.size ++ (ak.enc x.digest ++ ak.enc x.form))))) := rfl
 have hi : ∀ z : Int, (ai.enc z).length ≤ 10 := fun z => ey 10 _
 have ht : ∀ b : ByteArray, (ak.enc b).length ≤ 10 + b.size := fun b => by rw [gp]; have : (aO b.size).length ≤ 10 := ey 10 b.size; omega
 have t1 := ht x.obj
 have t2 := ht x.sec
 have t3 := ht x.digest
 have t4 := ht x.form
 have i1 := hi x.kind
 have i2 := hi x.at_
 have i3 := hi x.size
 rw [e]
 simp only [List.length_append]
 omega
theorem adZ (hd : d.size = 32) : (ba.enc (aV (cQ d a0 a1 a2 a3 a4))).length ≤ 20000 := by
 have hw := aaN d a0 a1 a2 a3 a4
 have k1 := aeg (vq d) (hw.2.2.2.2.2.1 _ List.mem_cons_self) (by show 1 ≤ 100; decide) (by show 4 ≤ 100; decide) (by show d.size ≤ 100; omega) (by show 0 ≤ 100; decide)
 have k2 := aeg (ug d) (hw.2.2.2.2.2.1 _ (List.mem_cons_of_mem _ List.mem_cons_self)) (by show 1 ≤ 100; decide) (by show 4 ≤ 100; decide) (by show d.size ≤ 100; omega) (by show 0 ≤ 100; decide)
 have hn : (aO (cQ d a0 a1 a2 a3 a4).nodes.l.length ++ aK cV (cQ d a0 a1 a2 a3 a4).nodes.l).length ≤ 3000 := by
   show (aO 2 ++ (cV (vq d) ++ (cV (ug d) ++ []))).length ≤ 3000
   simp only [List.length_append, List.length_nil]
   have : (aO 2).length ≤ 10 := ey 10 2
   omega
 have hbl : ∀ {n m : Nat}, Nat.ble n m = true → n ≤ m := fun h => Nat.le_of_ble_eq_true h
 rw [adh]
 have c1 : (ak.enc (cQ d a0 a1 a2 a3 a4).name).length ≤ 100 := hbl (by kernel_rfl)
 have c2 : (bK.enc (cQ d a0 a1 a2 a3 a4).lib).length ≤ 100 := hbl (by kernel_rfl)
 have c3 : (ai.enc (cQ d a0 a1 a2 a3 a4).code).length ≤ 100 := hbl (by kernel_rfl)
 have c4 : (ai.enc (cQ d a0 a1 a2 a3 a4).data).length ≤ 100 := hbl (by kernel_rfl)
 have c5 : (ai.enc (cQ d a0 a1 a2 a3 a4).zero).length ≤ 100 := hbl (by kernel_rfl)
 have c6 : (ak.enc (cQ d a0 a1 a2 a3 a4).bytes).length ≤ 1000 := hbl (by kernel_rfl)
 have c7 : (ak.enc (cQ d a0 a1 a2 a3 a4).tls).length ≤ 100 := hbl (by kernel_rfl)
 have c8 : (ai.enc (cQ d a0 a1 a2 a3 a4).block).length ≤ 100 := hbl (by kernel_rfl)
 have c9 : (aO (cQ d a0 a1 a2 a3 a4).exports.l.length ++ aK cG (cQ d a0 a1 a2 a3 a4).exports.l).length ≤ 100 := hbl (by kernel_rfl)
 have c10 : (aO (cQ d a0 a1 a2 a3 a4).imports.l.length ++ aK dF (cQ d a0 a1 a2 a3 a4).imports.l).length ≤ 100 := hbl (by kernel_rfl)
 have c11 : (aO (cQ d a0 a1 a2 a3 a4).slots.l.length ++ aK ai.enc (cQ d a0 a1 a2 a3 a4).slots.l).length ≤ 100 := hbl (by kernel_rfl)
 have c12 : (aO (cQ d a0 a1 a2 a3 a4).stubs.l.length ++ aK ai.enc (cQ d a0 a1 a2 a3 a4).stubs.l).length ≤ 100 := hbl (by kernel_rfl)
 have c13 : (aO (cQ d a0 a1 a2 a3 a4).dyns.l.length ++ aK jz (cQ d a0 a1 a2 a3 a4).dyns.l).length ≤ 100 := hbl (by kernel_rfl)
 have c14 : (aO (cQ d a0 a1 a2 a3 a4).inits.l.length ++ aK ai.enc (cQ d a0 a1 a2 a3 a4).inits.l).length ≤ 100 := hbl (by kernel_rfl)
 have c15 : (aO (cQ d a0 a1 a2 a3 a4).lasts.l.length ++ aK ai.enc (cQ d a0 a1 a2 a3 a4).lasts.l).length ≤ 100 := hbl (by kernel_rfl)
 have c16 : (ai.enc (cQ d a0 a1 a2 a3 a4).entry).length ≤ 100 := hbl (by kernel_rfl)
 have c17 : (aO (cQ d a0 a1 a2 a3 a4).needs.l.length ++ aK ak.enc (cQ d a0 a1 a2 a3 a4).needs.l).length ≤ 100 := hbl (by kernel_rfl)
 have c18 : (aO (cQ d a0 a1 a2 a3 a4).versions.l.length ++ aK cm (cQ d a0 a1 a2 a3 a4).versions.l).length ≤ 100 := hbl (by kernel_rfl)
 have c19 : (fb.enc (eC (cQ d a0 a1 a2 a3 a4).info)).length ≤ 100 := hbl (by kernel_rfl)
 have c20 : (aO (cQ d a0 a1 a2 a3 a4).changes.l.length ++ aK gO (cQ d a0 a1 a2 a3 a4).changes.l).length ≤ 100 := hbl (by kernel_rfl)
 have ad : ∀ {a b : List UInt8} {n m : Nat}, a.length ≤ n → b.length ≤ m → (a ++ b).length ≤ n + m := fun h1 h2 => by rw [List.length_append]; omega
 exact Nat.le_trans (ad c1 (ad c2 (ad c3 (ad c4 (ad c5 (ad c6 (ad c7 (ad c8 (ad hn (ad c9 (ad c10 (ad c11 (ad c12 (ad c13 (ad c14 (ad c15 (ad c16 (ad c17 (ad c18 (ad c19 c20)))))))))))))))))))) (by decide)
end
theorem ad5 (x : ax) : bytesOf (ba.enc (aV x)) ≠ bytesOf [] := fun h => by
 have h2 := ba.pos (aV x)
 have : ba.enc (aV x) = [] := congrArg gq h
 rw [this] at h2; cases h2
theorem nT : Con Tryz.prog 7 [] [] [] fun r _ _ => r = .bool true := by
 refine Con.enter Tryz.func7 rfl (by simp [Tryz.ntmps7]) ?_
 show awp _ _ _ _ ⟨[], _, _⟩
 refine aSR (aA rfl (aNn (aSR (LT rfl (EC [] [] rfl (tZ) ?_)))))
 rintro _ _ _ ⟨rfl, d, a0, a1, a2, a3, a4, hd, rfl, rfl⟩
 refine aST ?_
 refine LT rfl (bI (zs := ZI) (by kernel_rfl) rfl (fun b1_1 => (aHN ?_)))
 refine aT rfl (bg 0 tk39 rfl rfl rfl rfl (aHK ?_))
 refine aNn (aSR (UL 0 tk39 rfl rfl rfl rfl (LT rfl (bI (zs := ZI) (by kernel_rfl) rfl (fun b2_1 => (aHN ?_))))))
 refine aT rfl (bg 1 tk39 rfl rfl rfl rfl (aHK ?_))
 refine aNn (aSR (UO 2 rfl rfl (aT rfl (bg 1 tk3 rfl rfl rfl rfl (aHK ?_)))))
 refine aNs ?_
 have hW := aaN d a0 a1 a2 a3 a4
 have hL := adZ d a0 a1 a2 a3 a4 hd
 have hf := adC d a0 a1 a2 a3 a4
 refine aa (UL 0 tk39 rfl rfl rfl rfl (aU rfl (Q1 rfl (show Con Tryz.prog 14 [(cQ d a0 a1 a2 a3 a4).val, .int .i64 23] [(cQ d a0 a1 a2 a3 a4).ok] [] fun r _ _ => r = .tuple #[.int .i64 0, .bool true] from jI (cQ d a0 a1 a2 a3 a4) hf 23) 0 rfl) (aM rfl (aU rfl (bP rfl rfl) (aU rfl (bP rfl rfl) (aA rfl (aA rfl (aNn (aSR (UL 0 tk39 rfl rfl rfl rfl (aU rfl (Q1 rfl (show Con Tryz.prog 14 [(cQ d a0 a1 a2 a3 a4).val, .int .i64 24] [(cQ d a0 a1 a2 a3 a4).ok] [] fun r _ _ => r = .tuple #[.int .i64 0, .bool false] from jI (cQ d a0 a1 a2 a3 a4) hf 24) 0 rfl) ?_)))))))))))
 refine aM rfl (aU rfl (bP rfl rfl) (aU rfl (bP rfl rfl) (aA rfl (aA rfl (aNn (aSR (UL 0 tk39 rfl rfl rfl rfl (aU rfl (Q1 rfl (show Con Tryz.prog 14 [(cQ d a0 a1 a2 a3 a4).val, .int .i64 272] [(cQ d a0 a1 a2 a3 a4).ok] [] fun r _ _ => r = .tuple #[.int .i64 1, .bool true] from jI (cQ d a0 a1 a2 a3 a4) hf 272) 0 rfl) ?_))))))))
 refine aM rfl (aU rfl (bP rfl rfl) (aU rfl (bP rfl rfl) (aA rfl (aA rfl (aNn (aSR (UL 0 tk39 rfl rfl rfl rfl (aU rfl (Q1 rfl ((gP (cQ d a0 a1 a2 a3 a4) hW (by omega)).post (fun _ _ _ h => h.2.2)) 0 rfl) (LT rfl (EC [] [] rfl (iB (ba.enc (aV (cQ d a0 a1 a2 a3 a4))) (by omega)) ?_))))))))))
 rintro _ _ _ ⟨rfl, x2, r2, b2, hone, rfl, rfl⟩
 refine aST ?_
 obtain ⟨rfl, rfl, hpu⟩ := nk (t := []) hW (by omega) (by rw [List.append_nil]; exact hone)
 have hW2 := (jt (by omega) hone)
 rw [if_neg (by rw [hpu]; simp)]
 refine aM rfl (aU rfl (bP rfl rfl) (aU rfl (bP rfl rfl) (LT rfl (bI (zs := ZI) (by kernel_rfl) rfl (fun b7_6 => (aHN ?_))))))
 refine aT rfl (bg 2 tk39 rfl rfl rfl rfl (aHK ?_))
 refine aA rfl (aNn (aSR (LT rfl (EC [] [] rfl (iB [] (Nat.zero_le _)) ?_))))
 rintro _ _ _ ⟨rfl, x3, r3, b3, hone3, rfl, rfl⟩
 refine aST ?_
 rw [if_pos (by rw [decide_eq_false (ad5 x3)]; simp)]
 refine aM rfl (aU rfl (bP rfl rfl) (aU rfl (bP rfl rfl) (LT rfl (bI (zs := ZI) (by kernel_rfl) rfl (fun b8_4 => (aHN ?_))))))
 refine aT rfl (bg 3 tk39 rfl rfl rfl rfl (aHK ?_))
 refine aA rfl (aNn (aSR (UL 0 tk39 rfl rfl rfl rfl ?_)))
 refine eT (caps := []) [0] (false) (by kernel_rfl) true rfl rfl (fun _ => rfl) (fun hc => rfl) (fun hc => by rw [List.append_nil]; exact kf (cQ d a0 a1 a2 a3 a4) ⟨hW.1, hW.2.1, hW.2.2.1⟩) (fun br hbr => ?_)
 refine aM rfl (aG rfl rfl (fun hc => bC 1 tk39 rfl rfl rfl) ?_)
 refine eT (caps := []) [0] (false) (by kernel_rfl) _ rfl rfl (fun _ => rfl) (fun hc => (aJ (ae rfl hc) rfl)) (fun hc => by rw [List.append_nil]; exact kf (acj d a0 a1 a2 a3 a4) ⟨by show Go.Lv.I64 8; decide, hW.2.1, hW.2.2.1⟩) (fun bb hbb => ?_)
 refine aG rfl rfl (fun hc => dp (ae rfl hc)) (aU rfl (bp rfl rfl (fun h => gt rfl h)) (aM rfl (aG rfl rfl (fun hc => aP rfl) (aG rfl rfl (fun hc => ck (ae rfl hc) rfl) (aU rfl (bp rfl rfl (fun h => gt rfl h)) (aM rfl (aG rfl rfl (fun hc => aP rfl) (aU rfl (bp rfl rfl (fun h => gt rfl h)) (aM rfl (aG rfl rfl (fun hc => aP rfl) (aG rfl rfl (fun hc => dp (ae rfl hc)) (aU rfl (bp rfl rfl (fun h => gt rfl h)) (aM rfl (aG rfl rfl (fun hc => aP rfl) (aG rfl rfl (fun hc => ck (ae rfl hc) rfl) ?_)))))))))))))))
 refine aU rfl (bp rfl rfl (fun h => gt rfl h)) (aM rfl (aG rfl rfl (fun hc => aP rfl) (aU rfl (bp rfl rfl (fun h => gt rfl h)) (aM rfl (aG rfl rfl (fun hc => aP rfl) (aU rfl (bp rfl rfl (fun h => gt rfl h)) (aM rfl (aG rfl rfl (fun hc => aP rfl) (aG rfl rfl (fun hc => dp (ae rfl hc)) (aU rfl (bp rfl rfl (fun h => gt rfl h)) (aM rfl (aG rfl rfl (fun hc => bC 2 tk39 rfl rfl rfl) (aG rfl rfl (fun hc => bC 0 tk39 rfl rfl rfl) (aG rfl rfl (fun hc => QC (aJ (ae rfl hc) (aJ (ae rfl hc) rfl)) (fun w S fp hst => ((xm x2 (cQ d a0 a1 a2 a3 a4) hW2.1 hW hW2.2 (by omega)).post (fun _ _ _ h => h.2.2)).quiet2 (aD 1 rfl) (aD 2 rfl) hst)) ?_))))))))))))))
 refine aU rfl (bp rfl rfl (fun h => gt rfl h)) (aM rfl (aG rfl rfl (fun hc => bC 0 tk39 rfl rfl rfl) (aG rfl rfl (fun hc => Q0 (aJ (ae rfl hc) rfl) ((mE (cQ d a0 a1 a2 a3 a4)).post (fun _ _ _ h => h.2.2))) (aG rfl rfl (fun hc => cj Tryz.underlying9 (ae rfl hc)) (aG rfl rfl (fun hc => ck (ae rfl hc) rfl) (aU rfl (bp rfl rfl (fun h => gt rfl h)) (aM rfl (aG rfl rfl (fun hc => bC 0 tk39 rfl rfl rfl) (aG rfl rfl (fun hc => Q1 (aJ (ae rfl hc) rfl) ((vu (cQ d a0 a1 a2 a3 a4)).post (fun _ _ _ h => h.2.2)) 2 rfl) (aG rfl rfl (fun hc => ab4 (off := 0) (by kernel_rfl) (ae rfl hc) rfl) (aG rfl rfl (fun hc => iY (ae rfl hc) rfl) (aU rfl (bp rfl rfl (fun h => gt rfl h)) (aA rfl (aNn (az ?_)))))))))))))))
 refine FZ1 [] Tryz.results7 rfl ?_
 have hbr : br = true := (hbr rfl).2 (aaf d a0 a1 a2 a3 a4) (abJ d a0 a1 a2 a3 a4 hd)
 subst hbr
 have hbb : bb = false := by
   cases bb with
   | false => rfl
   | true => have := ((hbb rfl).1 rfl).2; rw [yW] at this; cases this
 subst hbb
 have e2 : decide (((jd (cQ d a0 a1 a2 a3 a4)).size : Int) = 768) = true := by kernel_rfl
 rw [hpu, decide_eq_true (p := bytesOf (ba.enc (aV (cQ d a0 a1 a2 a3 a4))) = bytesOf (ba.enc (aV (cQ d a0 a1 a2 a3 a4)))) rfl, e2]
 rfl
end Go.Proofs.YtahgkiicjohonaaGreat

