/- Parts of the proof, in build order. No condition. -/
import Derived.Test.YtgmiihmahaahiaaGreatDoorQb12
import Derived.Test.YtgmiihmahaahiaaGreatDoorQb08
import Derived.Test.YtgmiihmahaahiaaGreatDoorQb03
set_option linter.unusedSimpArgs false
set_option linter.unusedVariables false
set_option maxHeartbeats 1000000
set_option maxRecDepth 20000
namespace Go.Proofs.YtgmiihmahaahiaaGreatDoor
open Go.RowKit Go.Lp Go.Sy
open Go.Proofs.Tryz
attribute [local irreducible] aL aB awp aC fwp
abbrev pB : ByteArray → List D := fun s => [.v (.string s)]
def xd (l : List ByteArray) (s : ByteArray) : Bool := l.any fun x => decide (x = s)
theorem ir {l : List ByteArray} {s : ByteArray} : xd l s = true ↔ s ∈ l := by
 unfold xd
 rw [List.any_eq_true]
 exact ⟨fun ⟨x, hx, h⟩ => of_decide_eq_true h ▸ hx, fun h => ⟨s, h, decide_eq_true rfl⟩⟩
theorem qf (v : Value) (l : List ByteArray) (s : ByteArray) (hl : l.length ≤ 1000000000) : Con Tryz.prog 103 [v, .string s] [] [bH v 9 1 (l.map pB)] fun r ps hp => ps = [] ∧ r = .bool (xd l s) ∧ hp = [bH v 9 1 (l.map pB)] := by
 refine Con.enter Tryz.func103 rfl (by simp [Tryz.ntmps103]) ?_
 show awp _ _ _ _ ⟨[(0, true, _), (1, true, _)], _, _⟩
 refine aSR (aA rfl (aNs (aSR (aA rfl (aNn (ax ?_))))))
 refine aZ [0, 1, 5] [] [0] (fun (i : Nat) st => (i ≤ l.length ∧ s ∉ l.take i) ∧ st = ⟨[(0, true, v), (1, true, .string s), (5, true, .int .i64 i)], [], [bH v 9 1 (l.map pB)]⟩) (fun i => l.length - i) rfl (⟨0, ⟨Nat.zero_le _, by simp⟩, rfl⟩) ?_
 rintro i st ⟨⟨hi, hno⟩, rfl⟩
 refine az (aSR (aM rfl (aM rfl (aU rfl (fq 0 Tryz.underlying77 rfl rfl) (aU rfl (bJ rfl rfl) (aNn ?_))))))
 refine ah _ rfl (fun h1 => ?_) (fun h1 => ?_)
 ·skip
  have hi' : i < l.length := by simpa using h1
  obtain ⟨x, hx⟩ : ∃ x, l[i]? = some x := ⟨_, List.getElem?_eq_getElem hi'⟩
  refine au (aw (az (ax (aSR (aM rfl (aM rfl ?_))))))
  refine aU rfl (dU 0 i el77 rfl rfl rfl rfl (by simpa using hi')) ?_
  refine aU rfl (ej (u := .string x) 0 i 0 tk9 rfl rfl (aS hx) rfl rfl) (aM rfl (aU rfl (dR rfl rfl) (aNn ?_)))
  refine ah _ rfl (fun h2 => ?_) (fun h2 => ?_)
  ·skip
   have hxs : x = s := by simpa using h2
   refine aSR (aA rfl (aNn (aj (bC (aO (aO (bC (aO ?_))))))))
   refine bc [] [0] rfl Tryz.results103 rfl ?_ (.inr rfl)
   exact ⟨rfl, by rw [ir.2 (hxs ▸ List.mem_of_getElem? hx)], rfl⟩
  ·skip
   have hxs : x ≠ s := by simpa using h2
   refine au (bL (aw (ai (aM rfl ?_))))
   refine aU rfl (bB rfl rfl (by omega)) ?_
   refine aA rfl (aNn ?_)
   refine ⟨[0, 1, 5], [], [0], rfl, ?_⟩
   refine ⟨i + 1, ⟨⟨by omega, fun hm => ?_⟩, rfl⟩, by omega⟩
   rw [List.take_add_one, hx, List.mem_append] at hm
   rcases hm with hm | hm
   · exact hno hm
   · simp at hm; exact hxs hm.symm
 ·skip
  refine bg (bj (bj (bz (aw (aSR (aA rfl (aNn (aj ?_))))))))
  refine bc [] [0] rfl Tryz.results103 rfl ?_ (.inr rfl)
  refine ⟨rfl, ?_, rfl⟩
  have hge : l.length ≤ i := by simpa using h1
  rw [List.take_of_length_le hge] at hno
  rw [show xd l s = false from Bool.eq_false_iff.2 fun h => hno (ir.1 h)]
section
variable {vs : List aF} {n : ByteArray}
theorem ua {i : Nat} {x : aF} (hx : vs[i]? = some x) (hn : x.name = n) (hno : ∀ d ∈ vs.take i, d.name ≠ n) : fR vs n = some i := by
 obtain ⟨hi, hi2⟩ := List.getElem?_eq_some_iff.1 hx
 unfold fR
 rw [List.findIdx?_eq_some_iff_getElem]
 refine ⟨hi, by rw [hi2]; exact decide_eq_true hn, fun j hj => ?_⟩
 have := hno vs[j] (List.mem_take_iff_getElem.2 ⟨j, by omega, rfl⟩)
 simpa using this
theorem sA (hno : ∀ d ∈ vs, d.name ≠ n) : fR vs n = none := by
 unfold fR
 rw [List.findIdx?_eq_none_iff]
 exact fun d hd => decide_eq_false (hno d hd)
theorem wc {j : Nat} (h : fR vs n = some j) : ∃ d, vs[j]? = some d := by
 unfold fR at h
 rw [List.findIdx?_eq_some_iff_getElem] at h
 exact ⟨_, List.getElem?_eq_getElem h.1⟩
theorem vF (h : jD (fR vs n) < 0) : gi vs n = [] := by
 unfold gi
 cases hv : fR vs n with
 | none => rfl
 | some j => rw [hv] at h; simp [jD] at h; omega
theorem vz {o : Option Nat} (h : 0 ≤ jD o) : ∃ j, o = some j := by
 cases o with
 | none => simp [jD] at h
 | some j => exact ⟨j, rfl⟩
theorem xH {α : Type} [Inhabited α] {l : List α} {i : Nat} {x : α} (h : l[i]? = some x) : elt l (i : Int) = x := by
 unfold elt
 rw [List.getD_eq_getElem?_getD, show ((i : Nat) : Int).toNat = i from rfl, h]; rfl
end
theorem xg {ifs : List bw} {i : Nat} {f : bw} (h : Ent [bW bw.ok ifs] (bW bw.ok ifs)) (hf : ifs[i]? = some f) : ∀ p ∈ [ShF aF.row f.versions, bW aF.ok f.versions.l], Ent [bW bw.ok ifs] p := fun p hp => by
 simp only [List.mem_cons, List.not_mem_nil, or_false] at hp
 rcases hp with rfl | rfl
 · exact bw.f_versions (Ent.all h hf)
 · exact bw.f_versionsA (Ent.all h hf)
theorem xo {f : bw} {n v : ByteArray} {e : cG} (hn : e.name = n) : exR f (n, v) e = (decide (v = ⟨#[]⟩) && (e.main || decide (e.version = ⟨#[]⟩)) || !decide (v = ⟨#[]⟩) && eB f.versions.l e.version v) := by
 have e0 : (⟨#[]⟩ : ByteArray) = ByteArray.empty := rfl
 rw [e0]
 unfold exR
 rw [decide_eq_true hn]
 by_cases hv : v = ByteArray.empty <;> simp [hv]
theorem uj {ifs : List bw} {n v : ByteArray} {i : Nat} {f : bw} {e : cG} (hf : ifs[i]? = some f) (he : e ∈ f.exports.l) (hx : exR f (n, v) e = true) (hno : ∀ g ∈ ifs.take i, ifR (n, v) g = false) : cK ifs n v = (i : Int) := by
 obtain ⟨hi, hi2⟩ := List.getElem?_eq_some_iff.1 hf
 unfold cK
 rw [show ifs.findIdx? (ifR (n, v)) = some i from ?_]
 · rfl
 · rw [List.findIdx?_eq_some_iff_getElem]
   refine ⟨hi, ?_, fun j hj => ?_⟩
   · rw [hi2]; unfold ifR; exact List.any_eq_true.2 ⟨e, he, hx⟩
   · rw [hno ifs[j] (List.mem_take_iff_getElem.2 ⟨j, by omega, rfl⟩)]; simp
theorem uk {ifs : List bw} {n v : ByteArray} (hno : ∀ g ∈ ifs, ifR (n, v) g = false) : cK ifs n v = -1 := by
 unfold cK
 rw [List.findIdx?_eq_none_iff.2 hno]; rfl
theorem tN (vs : Sl aF) (n : ByteArray) : Con Tryz.prog 208 [vs.val, .string n] [ShF aF.row vs] [] fun r _ _ => r = .int .i64 (jD (fR vs.l n)) := by
 refine Con.enter Tryz.func208 rfl (by simp [Tryz.ntmps208]) ?_
 show awp _ _ _ _ ⟨[(0, true, _), (1, true, _)], _, _⟩
 refine bf (.of (an 0 rfl)) (fun hlen => ?_)
 refine aSR (aA rfl (aNs (aSR (aA rfl (aNn (ax ?_))))))
 refine aZ [0, 1, 5] [0] [] (fun (i : Nat) st => (i ≤ vs.l.length ∧ ∀ d ∈ vs.l.take i, d.name ≠ n) ∧ st = ⟨[(0, true, vs.val), (1, true, .string n), (5, true, .int .i64 i)], [ShF aF.row vs], []⟩) (fun i => vs.l.length - i) rfl (⟨0, ⟨Nat.zero_le _, by simp⟩, rfl⟩) ?_
 rintro i st ⟨⟨hi, hno⟩, rfl⟩
 refine az (aSR (aM rfl (aM rfl (aU rfl (bq Tryz.underlying24 rfl) (aU rfl (bJ rfl rfl) (aNn ?_))))))
 refine ah _ rfl (fun h1 => ?_) (fun h1 => ?_)
 ·skip
  have hi' : i < vs.l.length := by simp at h1; omega
  obtain ⟨x, hx⟩ : ∃ x, vs.l[i]? = some x := ⟨_, List.getElem?_eq_getElem hi'⟩
  refine au (aw (az (ax (aSR (aM rfl (aM rfl ?_))))))
  refine cF true rfl rfl (fun _ => av Tryz.underlying24 tk178 rfl ((.of (an 0 rfl))) rfl (aS hx) rfl rfl) (fun h => absurd h (by decide)) (fun ⟨b4_2, o4_2⟩ => ?_)
  refine aU rfl (aa (off := 0) (by kernel_rfl) rfl) ?_
  refine aU rfl (aR (o := 0) tk9 rfl (an 0 rfl) rfl rfl) (aM rfl (aU rfl (dR rfl rfl) (aNn ?_)))
  refine ah _ rfl (fun h2 => ?_) (fun h2 => ?_)
  ·skip
   have hxs : x.name = n := by simpa using h2
   refine aSR (aM rfl (aA rfl (aNn (aj (bC (aO (aO (bC (aO ?_)))))))))
   refine bc [] [] rfl Tryz.results208 rfl ?_ (.inr rfl)
   rw [ua hx hxs hno]; rfl
  ·skip
   have hxs : x.name ≠ n := by simpa using h2
   refine au (bL (aw (ai (aM rfl ?_))))
   refine aU rfl (bB rfl rfl (by omega)) ?_
   refine aA rfl (aNn ?_)
   refine ⟨[0, 1, 5], [0], [], rfl, ?_⟩
   refine ⟨i + 1, ⟨⟨by omega, fun d hd => ?_⟩, rfl⟩, by omega⟩
   rw [List.take_add_one, hx, List.mem_append] at hd
   rcases hd with hd | hd
   · exact hno d hd
   · simp at hd; subst hd; exact hxs
 ·skip
  refine bg (bj (bj (bz (aw (aSR (aA rfl (aNn (aj ?_))))))))
  refine bc [] [] rfl Tryz.results208 rfl ?_ (.inr rfl)
  have hge : vs.l.length ≤ i := by simp at h1; omega
  rw [List.take_of_length_le hge] at hno
  rw [sA hno]; rfl
theorem uM (vs : Sl aF) (v : ByteArray) (hU : (univ vs.l v).length ≤ 900000000) : Con Tryz.prog 104 [vs.val, .string v] [ShF aF.row vs, bW aF.ok vs.l] [] fun r ps hp => ps = [] ∧ ∃ l : List ByteArray, l.length ≤ 900000000 ∧ (∀ x, x ∈ l ↔ Srv vs.l v x) ∧ hp = [bH r 9 1 (l.map pB)] := by
 refine Con.enter Tryz.func104 rfl (by simp [Tryz.ntmps104]) ?_
 show awp _ _ _ _ ⟨[(0, true, _), (1, true, _)], _, _⟩
 refine bf (.of (an 0 rfl)) (fun hlen => ?_)
 refine aSR (aA rfl (aNn (aSR (aM rfl ?_))))
 refine al (q := true) rfl (cz (zs := [.string .empty]) (l := [(0, .tmp 9)]) el77 (by kernel_rfl) (by decide) (by decide) (by decide) rfl rfl rfl (.more rfl (.v rfl .nil) .nil) rfl rfl (fun v1_1 => ?_))
 refine aH (by (try simp only [nM, nN]); rfl) ?_
 refine aA rfl (aNs (aSR (aA rfl (cA ?_))))
 refine aw (ax (aZ [0, 5, 6] [1, 0] [0] (fun (z : List ByteArray × Nat × Value) st => (fB vs.l v z.1 z.2.1 0 ∧ z.2.1 ≤ z.1.length) ∧ st = ⟨[(0, true, vs.val), (5, true, z.2.2), (6, true, .int .i64 z.2.1)], [ShF aF.row vs, bW aF.ok vs.l], [bH z.2.2 9 1 (z.1.map pB)]⟩) (fun z => (univ vs.l v).length - z.2.1) rfl (⟨([v], 0, _), ⟨.start v, Nat.zero_le _⟩, rfl⟩) ?_))
 rintro ⟨l, i, ov⟩ st ⟨⟨hA, hi⟩, rfl⟩
 dsimp only at hA hi
 dsimp only
 have hle := hA.le
 refine az (aSR (aM rfl (aM rfl (aU rfl (fq 0 Tryz.underlying77 rfl rfl) (aU rfl (bJ rfl rfl) (aNn ?_))))))
 refine ah _ rfl (fun h1 => ?_) (fun h1 => ?_)
 ·skip
  have hi' : i < l.length := by simpa using h1
  obtain ⟨x, hx⟩ : ∃ x, l[i]? = some x := ⟨_, List.getElem?_eq_getElem hi'⟩
  refine au (aw (az (ax (aSR (aM rfl (aM rfl (aM rfl ?_)))))))
  refine aU rfl (dU 0 i el77 rfl rfl rfl rfl (by simpa using hi')) ?_
  refine aU rfl (ej (u := .string x) 0 i 0 tk9 rfl rfl (aS hx) rfl rfl) ?_
  refine aU rfl (bP (by kernel_rfl) rfl (fun w S fp hst => (tN vs x).quiet1 (an 0 rfl) hst)) ?_
  refine aA rfl (aNs (aSR (aM rfl (aU rfl (bJ rfl rfl) (aNn ?_)))))
  refine ah _ rfl (fun h2 => ?_) (fun h2 => ?_)
  ·skip
   have hp0 : gi vs.l x = [] := vF (by simpa using h2)
   refine bg (bj (bz (aw (ai (aM rfl ?_)))))
   refine aU rfl (bB rfl rfl (by omega)) ?_
   refine aA rfl (aNn ?_)
   refine ⟨[0, 5, 6], [1, 0], [0], rfl, ?_⟩
   exact ⟨(l, i + 1, ov), ⟨⟨hA.next hx (by rw [hp0]; simp), by dsimp only; omega⟩, rfl⟩, by dsimp only; omega⟩
  ·skip
   obtain ⟨j, hj⟩ : ∃ j, fR vs.l x = some j := vz (by simpa using h2)
   obtain ⟨d, hd⟩ := wc hj
   have hpar : gi vs.l x = d.parents.l := by unfold gi; rw [hj]; dsimp only; rw [xH hd]
   rw [hj]
   refine bf (aF.f_parents (Ent.all (.of (an 1 rfl)) hd)) (fun hlenp => ?_)
   refine au (aw (aSR (aA rfl (aNn (ax ?_)))))
   refine aZ [0, 5, 6, 7, 8] [1, 0] [0] (fun (z : List ByteArray × Nat × Value) st => (fB vs.l v z.1 i z.2.1 ∧ i < z.1.length ∧ z.1[i]? = some x ∧ z.2.1 ≤ d.parents.l.length) ∧ st = ⟨[(0, true, vs.val), (5, true, z.2.2), (6, true, .int .i64 i), (7, true, .int .i64 (jD (some j))), (8, true, .int .i64 z.2.1)], [ShF aF.row vs, bW aF.ok vs.l], [bH z.2.2 9 1 (z.1.map pB)]⟩) (fun z => d.parents.l.length - z.2.1) rfl (⟨(l, 0, ov), ⟨hA, hi', hx, Nat.zero_le _⟩, rfl⟩) ?_
   clear hA hi hle h1 hi' hx
   rintro ⟨l, k, ov⟩ st ⟨⟨hA, hi', hx, hk⟩, rfl⟩
   dsimp only at hA hi' hx hk
   dsimp only
   have hle := hA.le
   refine az (aSR (aM rfl (aM rfl (aM rfl ?_))))
   refine cF true rfl rfl (fun _ => av Tryz.underlying24 tk178 rfl ((.of (an 0 rfl))) rfl (aS hd) rfl rfl) (fun h => absurd h (by decide)) (fun ⟨b8_3, o8_3⟩ => ?_)
   refine aU rfl (aa (off := 1) (by kernel_rfl) rfl) ?_
   refine aU rfl (aR (o := 1) tk77 rfl (an 0 rfl) rfl rfl) (aU rfl (bq Tryz.underlying77 rfl) (aU rfl (bJ rfl rfl) (aNn ?_)))
   refine ah _ rfl (fun h3 => ?_) (fun h3 => ?_)
   ·skip
    have hk' : k < d.parents.l.length := by simp at h3; omega
    obtain ⟨p, hp⟩ : ∃ p, d.parents.l[k]? = some p := ⟨_, List.getElem?_eq_getElem hk'⟩
    refine au (aw (az (ax (aSR (aM rfl (aM rfl (aM rfl ?_)))))))
    refine cF true rfl rfl (fun _ => av Tryz.underlying24 tk178 rfl ((.of (an 1 rfl))) rfl (aS hd) rfl rfl) (fun h => absurd h (by decide)) (fun ⟨b10_3, o10_3⟩ => ?_)
    refine aU rfl (aa (off := 1) (by kernel_rfl) rfl) ?_
    refine aU rfl (aR (o := 1) tk77 rfl (an 0 rfl) rfl rfl) (aM rfl ?_)
    refine cF true rfl rfl (fun _ => av Tryz.underlying77 tk9 rfl ((aF.f_parents (Ent.all (.of (an 3 rfl)) hd))) rfl (aS hp) rfl rfl) (fun h => absurd h (by decide)) (fun ⟨b10_7, o10_7⟩ => ?_)
    refine aU rfl (aR (o := 0) tk9 rfl (an 0 rfl) rfl rfl) ?_
    refine al (q := false) rfl (bF [] [0] (by kernel_rfl) rfl rfl rfl rfl (qf ov l p (by omega)) ?_)
    rintro _ _ _ ⟨rfl, rfl, rfl⟩
    refine cB (by (try simp only [nM, nN]); rfl) (by (try simp only [aV, place, Nat.reduceBEq, if_true, if_false, reduceIte, Nat.reduceAdd, nW]); rfl) ?_
    refine aU rfl (cm rfl) (aNn ?_)
    refine ah _ rfl (fun h4 => ?_) (fun h4 => ?_)
    ·skip
     have hpl : p ∉ l := fun h => by rw [ir.2 h] at h4; cases h4
     refine ai (aM rfl (aM rfl (aM rfl ?_)))
     refine cF true rfl rfl (fun _ => av Tryz.underlying24 tk178 rfl ((.of (an 3 rfl))) rfl (aS hd) rfl rfl) (fun h => absurd h (by decide)) (fun ⟨b11_3, o11_3⟩ => ?_)
     refine aU rfl (aa (off := 1) (by kernel_rfl) rfl) ?_
     refine aU rfl (aR (o := 1) tk77 rfl (an 0 rfl) rfl rfl) (aM rfl ?_)
     refine cF true rfl rfl (fun _ => av Tryz.underlying77 tk9 rfl ((aF.f_parents (Ent.all (.of (an 5 rfl)) hd))) rfl (aS hp) rfl rfl) (fun h => absurd h (by decide)) (fun ⟨b11_7, o11_7⟩ => ?_)
     refine aU rfl (aR (o := 0) tk9 rfl (an 0 rfl) rfl rfl) ?_
     refine al (q := true) rfl (cz (zs := [.string .empty]) (l := [(0, .tmp 54)]) el77 (by kernel_rfl) (by decide) (by decide) (by decide) rfl rfl rfl (.more rfl (.v rfl .nil) .nil) rfl rfl (fun v11_9 => ?_))
     refine aH (by (try simp only [nM, nN]); rfl) ?_
     refine al rfl (bX 0 el77 rfl rfl rfl rfl (cH 1 el77 rfl (by simp)) (by first | assumption | simp) (by simp; omega) _ rfl (fun v11_10 c11_10 => ?_))
     refine aH (by (try simp only [nK, nL]); rfl) ?_
     refine aA rfl (cA (bL (aw (ai (aM rfl ?_)))))
     refine aU rfl (bB rfl rfl (by omega)) ?_
     refine aA rfl (aNn ?_)
     refine ⟨[0, 5, 6, 7, 8], [1, 0], [0], rfl, ?_⟩
     refine ⟨(l ++ [p], k + 1, .slice v11_10 ((l.map pB).length + 1) c11_10), ⟨⟨hA.add hx (by rw [hpar]; exact hp) hpl, by simp; omega, by rw [List.getElem?_append_left hi']; exact hx, by dsimp only; omega⟩, ?_⟩, by dsimp only; omega⟩
     show _ = (⟨_, _, [bH _ _ 1 ((l ++ [p]).map pB)]⟩ : Sta)
     rw [List.map_append]
     rfl
    ·skip
     have hpl : p ∈ l := ir.1 (by simpa using h4)
     refine au (bL (aw (ai (aM rfl ?_))))
     refine aU rfl (bB rfl rfl (by omega)) ?_
     refine aA rfl (aNn ?_)
     refine ⟨[0, 5, 6, 7, 8], [1, 0], [0], rfl, ?_⟩
     exact ⟨(l, k + 1, ov), ⟨⟨hA.hit hx (by rw [hpar]; exact hp) hpl, hi', hx, by dsimp only; omega⟩, rfl⟩, by dsimp only; omega⟩
   ·skip
    have hkk : d.parents.l.length ≤ k := by simp at h3; omega
    refine bg (bj (bj (bz (bL (aw (ai (aM rfl ?_)))))))
    refine aU rfl (bB rfl rfl (by omega)) ?_
    refine aA rfl (aNn ?_)
    refine ⟨[0, 5, 6], [1, 0], [0], rfl, ?_⟩
    exact ⟨(l, i + 1, ov), ⟨⟨hA.next hx (by rw [hpar]; exact hkk), by dsimp only; omega⟩, rfl⟩, by dsimp only; omega⟩
 ·skip
  refine bg (bj (bj (bz (aw (aSR (aM rfl (aA rfl (aNn (aj ?_)))))))))
  refine bc [] [0] rfl Tryz.results104 rfl ?_ (.inr rfl)
  exact ⟨rfl, l, by omega, hA.fin (by simpa using h1), rfl⟩
theorem ph (vs : Sl aF) (a b : ByteArray) (hU : (univ vs.l a).length ≤ 900000000) : Con Tryz.prog 48 [vs.val, .string a, .string b] [ShF aF.row vs, bW aF.ok vs.l] [] fun r _ _ => r = .bool (eB vs.l a b) := by
 refine Con.enter Tryz.func48 rfl (by simp [Tryz.ntmps48]) ?_
 show awp _ _ _ _ ⟨[(0, true, _), (1, true, _), (2, true, _)], _, _⟩
 refine aSR (aA rfl (aNn (aSR (aM rfl (aM rfl ?_)))))
 refine al (q := true) rfl (bF [1, 0] [] (by kernel_rfl) rfl rfl rfl rfl (uM vs a hU) ?_)
 rintro v _ _ ⟨rfl, l, hl, hm, rfl⟩
 refine cB (by (try simp only [nM, nN]); rfl) (by (try simp only [aV, place, Nat.reduceBEq, if_true, if_false, reduceIte, Nat.reduceAdd, nW]); rfl) ?_
 refine aM rfl ?_
 refine al (q := false) rfl (bF [] [0] (by kernel_rfl) rfl rfl rfl rfl (qf v l b (by omega)) ?_)
 rintro _ _ _ ⟨rfl, rfl, rfl⟩
 refine cB (by (try simp only [nM, nN]); rfl) (by (try simp only [aV, place, Nat.reduceBEq, if_true, if_false, reduceIte, Nat.reduceAdd, nW]); rfl) ?_
 refine aA rfl (aNn (aj ?_))
 refine bc [] [] rfl Tryz.results48 rfl ?_ (.inr rfl)
 congr 1
 rw [Bool.eq_iff_iff, ir, hm, gV]
theorem vA (ifs : Sl bw) (n v : ByteArray) (hU : ∀ f ∈ ifs.l, (f.versions.l.flatMap fun d => d.parents.l).length ≤ 800000000) : Con Tryz.prog 23 [ifs.val, .string n, .string v] [ShF bw.row ifs, bW bw.ok ifs.l] [] fun r _ _ => r = .int .i64 (cK ifs.l n v) := by
 refine Con.enter Tryz.func23 rfl (by simp [Tryz.ntmps23]) ?_
 show awp _ _ _ _ ⟨[(0, true, _), (1, true, _), (2, true, _)], _, _⟩
 refine bf (.of (an 0 rfl)) (fun hlen => ?_)
 refine aSR (aA rfl (aNs (aSR (aA rfl (aNn (ax ?_))))))
 refine aZ [0, 1, 2, 7] [1, 0] [] (fun (i : Nat) st => (i ≤ ifs.l.length ∧ ∀ f ∈ ifs.l.take i, ifR (n, v) f = false) ∧ st = ⟨[(0, true, ifs.val), (1, true, .string n), (2, true, .string v), (7, true, .int .i64 i)], [ShF bw.row ifs, bW bw.ok ifs.l], []⟩) (fun i => ifs.l.length - i) rfl (⟨0, ⟨Nat.zero_le _, by simp⟩, rfl⟩) ?_
 rintro i st ⟨⟨hi, hno⟩, rfl⟩
 refine az (aSR (aM rfl (aM rfl (aU rfl (bq Tryz.underlying23 rfl) (aU rfl (bJ rfl rfl) (aNn ?_))))))
 refine ah _ rfl (fun h1 => ?_) (fun h1 => ?_)
 ·skip
  have hi' : i < ifs.l.length := by simp at h1; omega
  obtain ⟨f, hf⟩ : ∃ f, ifs.l[i]? = some f := ⟨_, List.getElem?_eq_getElem hi'⟩
  have hUf := hU f (List.mem_of_getElem? hf)
  refine bf (bw.f_exports (Ent.all (.of (an 1 rfl)) hf)) (fun hlene => ?_)
  refine au (aw (az (ax (aSR (aA rfl (aNn (ax ?_)))))))
  refine aZ [0, 1, 2, 7, 8] [1, 0] [] (fun (k : Nat) st => (k ≤ f.exports.l.length ∧ ∀ e ∈ f.exports.l.take k, exR f (n, v) e = false) ∧ st = ⟨[(0, true, ifs.val), (1, true, .string n), (2, true, .string v), (7, true, .int .i64 i), (8, true, .int .i64 k)], [ShF bw.row ifs, bW bw.ok ifs.l], []⟩) (fun k => f.exports.l.length - k) rfl (⟨0, ⟨Nat.zero_le _, by simp⟩, rfl⟩) ?_
  rintro k st ⟨⟨hk, hnk⟩, rfl⟩
  refine az (aSR (aM rfl (aM rfl (aM rfl ?_))))
  refine cF true rfl rfl (fun _ => av Tryz.underlying23 tk73 rfl ((.of (an 0 rfl))) rfl (aS hf) rfl rfl) (fun h => absurd h (by decide)) (fun ⟨b5_3, o5_3⟩ => ?_)
  refine aU rfl (aa (off := 1) (by kernel_rfl) rfl) ?_
  refine aU rfl (aR (o := 1) tk71 rfl (an 0 rfl) rfl rfl) (aU rfl (bq Tryz.underlying71 rfl) (aU rfl (bJ rfl rfl) (aNn ?_)))
  refine ah _ rfl (fun h2 => ?_) (fun h2 => ?_)
  ·skip
   have hk' : k < f.exports.l.length := by simp at h2; omega
   obtain ⟨e, he⟩ : ∃ e, f.exports.l[k]? = some e := ⟨_, List.getElem?_eq_getElem hk'⟩
   have hnext : exR f (n, v) e = false → ∀ x ∈ f.exports.l.take (k + 1), exR f (n, v) x = false := fun h x hx => by
     rw [List.take_add_one, he, List.mem_append] at hx
     rcases hx with hx | hx
     · exact hnk x hx
     · simp at hx; subst hx; exact h
   refine au (aw (az (ax (aSR (aM rfl (aM rfl ?_))))))
   refine cF true rfl rfl (fun _ => av Tryz.underlying23 tk73 rfl ((.of (an 1 rfl))) rfl (aS hf) rfl rfl) (fun h => absurd h (by decide)) (fun ⟨b7_2, o7_2⟩ => ?_)
   refine aU rfl (aa (off := 1) (by kernel_rfl) rfl) ?_
   refine aU rfl (aR (o := 1) tk71 rfl (an 0 rfl) rfl rfl) (aM rfl ?_)
   refine cF true rfl rfl (fun _ => av Tryz.underlying71 tk128 rfl ((bw.f_exports (Ent.all (.of (an 3 rfl)) hf))) rfl (aS he) rfl rfl) (fun h => absurd h (by decide)) (fun ⟨b7_6, o7_6⟩ => ?_)
   refine aU rfl (aR (o := 0) tk128 rfl (an 0 rfl) rfl rfl) ?_
   refine al (q := true) rfl (bp (zs := [.string .empty, .string .empty, .bool false, .int .i64 0, .int .i64 0, .int .i64 0]) (by kernel_rfl) rfl (fun b7_8 => ?_))
   refine aH (by (try simp only [nM, nN]); rfl) ?_
   refine al rfl (aW 0 tk128 rfl rfl rfl rfl ?_)
   refine aH (by (try simp only [nK, nL]); rfl) ?_
   refine aNs (aSR ?_)
   refine aU rfl (aa (off := 0) (by kernel_rfl) rfl) ?_
   refine aU rfl (ae 0 tk9 rfl rfl rfl) (aM rfl (aU rfl (jn rfl rfl) (aNn ?_)))
   refine ah _ rfl (fun h3 => ?_) (fun h3 => ?_)
   ·skip
    have hne : ¬ e.name = n := by simpa using h3
    refine bg (bj (bz (aw (ai (aM rfl ?_)))))
    refine aU rfl (bB rfl rfl (by omega)) ?_
    refine aA rfl (aNn ?_)
    refine ⟨[0, 1, 2, 7, 8], [1, 0], [], rfl, ?_⟩
    exact ⟨k + 1, ⟨⟨by omega, hnext (by unfold exR; rw [decide_eq_false hne]; rfl)⟩, rfl⟩, by omega⟩
   ·skip
    have hen : e.name = n := by simpa using h3
    refine au (aw (az ?_))
    refine bn [] (by kernel_rfl) ?_
    show aB _ _ _ _ _ 26 #[false, false, false, false, false, false, false, false, false, false, false, false, false, false, false, false, false, false, false, false, false, false, false, false, false, false] _
    refine bU 0 rfl (by kernel_rfl) rfl (aq rfl) ?_
    refine bU 1 rfl (by kernel_rfl) rfl (dR rfl rfl) ?_
    refine bU 2 rfl (by kernel_rfl) rfl (aq rfl) ?_
    refine bG 3 rfl (by kernel_rfl) rfl rfl (fun hc => aa (off := 2) (by kernel_rfl) rfl) ?_
    refine bG 4 rfl (by kernel_rfl) rfl rfl (fun hc => ae 0 tk4 (ab rfl hc) rfl rfl) ?_
    refine bG 5 rfl (by kernel_rfl) rfl rfl (fun hc => aq (ab rfl hc)) ?_
    refine bG 6 rfl (by kernel_rfl) rfl rfl (fun hc => aa (off := 1) (by kernel_rfl) rfl) ?_
    refine bG 7 rfl (by kernel_rfl) rfl rfl (fun hc => ae 0 tk9 (ab rfl hc) rfl rfl) ?_
    refine bG 8 rfl (by kernel_rfl) rfl rfl (fun hc => dR (ab rfl hc) rfl) ?_
    refine bG 9 rfl (by kernel_rfl) rfl rfl (fun hc => cx (ab rfl hc) rfl (fun h => gf hc h)) ?_
    refine bU 10 rfl (by kernel_rfl) rfl (bA rfl rfl (fun h => gt rfl h)) ?_
    refine bU 11 rfl (by kernel_rfl) rfl (aq rfl) ?_
    refine bG 12 rfl (by kernel_rfl) rfl rfl (fun hc => aq rfl) ?_
    refine bG 13 rfl (by kernel_rfl) rfl rfl (fun hc => jn (ab rfl hc) rfl) ?_
    refine bG 14 rfl (by kernel_rfl) rfl rfl (fun hc => aq (ab rfl hc)) ?_
    refine bG 15 rfl (by kernel_rfl) rfl rfl (fun hc => aq rfl) ?_
    refine bG 16 rfl (by kernel_rfl) rfl rfl (fun hc => aq rfl) ?_
    refine dI 17 rfl (by kernel_rfl) _ rfl rfl (fun hc => av Tryz.underlying23 tk73 (ab rfl hc) ((.of (an 3 rfl))) (ab rfl hc) (aS hf) rfl rfl) (fun _ => ⟨(0, 0)⟩) (fun ⟨b9_17, o9_17⟩ => ?_)
    refine bG 18 rfl (by kernel_rfl) rfl rfl (fun hc => aa (off := 2) (by kernel_rfl) (ab rfl hc)) ?_
    refine bG 19 rfl (by kernel_rfl) rfl rfl (fun hc => aR (o := 2) tk24 (ab rfl hc) (an 0 rfl) hc rfl) ?_
    refine bG 20 rfl (by kernel_rfl) rfl rfl (fun hc => aa (off := 1) (by kernel_rfl) rfl) ?_
    refine bG 21 rfl (by kernel_rfl) rfl rfl (fun hc => ae 0 tk9 (ab rfl hc) rfl rfl) ?_
    refine bG 22 rfl (by kernel_rfl) rfl rfl (fun hc => aq rfl) ?_
    refine bG 23 rfl (by kernel_rfl) rfl rfl (fun hc => bP (by kernel_rfl) (aN (ab rfl hc) (aN (ab rfl hc) (aN (ab rfl hc) rfl))) (fun w S fp hst => ((ph f.versions e.version v (by simp only [univ, List.length_cons]; omega)).pre (ps0 := [bW bw.ok ifs.l]) (xg (.of (an 0 rfl)) hf)).quiet1 (an 5 rfl) hst)) ?_
    refine bG 24 rfl (by kernel_rfl) rfl rfl (fun hc => bA (ab rfl hc) rfl (fun h => gt hc h)) ?_
    refine bU 25 rfl (by kernel_rfl) rfl (cx rfl rfl (fun h => gf rfl h)) ?_
    refine bS (by kernel_rfl) ?_
    refine aw ?_
    refine ah _ rfl (fun h4 => ?_) (fun h4 => ?_)
    ·skip
     have hex : exR f (n, v) e = true := by rw [xo hen]; exact h4
     refine aSR (aM rfl (aA rfl (aNn (aj (bC (aO (aO (bC (bC (aO (aO (bC (aO ?_)))))))))))))
     refine bc [] [] rfl Tryz.results23 rfl ?_ (.inr rfl)
     rw [uj hf (List.mem_of_getElem? he) hex hno]
    ·skip
     have hex : exR f (n, v) e = false := by rw [xo hen]; exact h4
     refine au (bL (aw (ai (aM rfl ?_))))
     refine aU rfl (bB rfl rfl (by omega)) ?_
     refine aA rfl (aNn ?_)
     refine ⟨[0, 1, 2, 7, 8], [1, 0], [], rfl, ?_⟩
     exact ⟨k + 1, ⟨⟨by omega, hnext hex⟩, rfl⟩, by omega⟩
  ·skip
   have hkk : f.exports.l.length ≤ k := by simp at h2; omega
   have hnf : ifR (n, v) f = false := by rw [List.take_of_length_le hkk] at hnk; unfold ifR; rw [List.any_eq_false]; exact fun x hx => by rw [hnk x hx]; simp
   refine bg (bj (bj (bz (bL (aw (ai (aM rfl ?_)))))))
   refine aU rfl (bB rfl rfl (by omega)) ?_
   refine aA rfl (aNn ?_)
   refine ⟨[0, 1, 2, 7], [1, 0], [], rfl, ?_⟩
   refine ⟨i + 1, ⟨⟨by omega, fun g hg => ?_⟩, rfl⟩, by omega⟩
   rw [List.take_add_one, hf, List.mem_append] at hg
   rcases hg with hg | hg
   · exact hno g hg
   · simp at hg; subst hg; exact hnf
 ·skip
  refine bg (bj (bj (bz (aw (aSR (aA rfl (aNn (aj ?_))))))))
  refine bc [] [] rfl Tryz.results23 rfl ?_ (.inr rfl)
  have hge : ifs.l.length ≤ i := by simp at h1; omega
  rw [List.take_of_length_le hge] at hno
  rw [uk hno]
end Go.Proofs.YtgmiihmahaahiaaGreatDoor

