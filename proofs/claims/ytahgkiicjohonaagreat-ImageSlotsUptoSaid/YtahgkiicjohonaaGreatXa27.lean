/- Parts of the proof, in build order. No condition. -/
import Derived.Test.YtahgkiicjohonaaGreatXa26
import Derived.Test.YtahgkiicjohonaaGreatXa05
import Derived.Test.YtahgkiicjohonaaGreatXa09
import Derived.Test.YtahgkiicjohonaaGreatXa04
import Derived.Test.YtahgkiicjohonaaGreatXa06
import Derived.Lib.ConvBytes
import Derived.Laws.IdiomCopy
import Derived.Deep.Upon
set_option linter.unusedSimpArgs false
set_option linter.unusedVariables false
set_option maxHeartbeats 1000000
set_option maxRecDepth 20000
namespace Go.Proofs.YtahgkiicjohonaaGreat
open Go.RowKit Go.Lp Go.Sy Go.Lv
open Go.Proofs.Tryz
attribute [local irreducible] aL aB awp aC fwp Quiet
theorem rW (x : ax) (hW : cI x) (hl : (ba.enc (aV x)).length ≤ 1000000000) : Con Tryz.prog 8 [x.val] [x.ok] [] (YN Value.bool fun b => b = true → (ba.enc (aV x)).length ≤ 20000) := by
 refine EN1 Tryz.func8 rfl (aY _ (ax.f_versions (.of (aD 0 rfl))) (aY _ (ax.f_changes (.of (aD 1 rfl))) (aSR (LT rfl (cx rfl rfl rfl (fun b0_0 => (aHN ?_)))))))
 refine aA rfl (aNs (aSR (UO 5 rfl rfl (UL 0 tk9 rfl rfl rfl rfl (aU rfl (cj Tryz.underlying9 rfl) (aU rfl (cJ rfl rfl) (aM rfl (GO 6 rfl rfl rfl (GL 0 tk9 rfl rfl rfl rfl rfl (aG rfl rfl (fun hc => cj Tryz.underlying9 (ae rfl hc)) (aG rfl rfl (fun hc => cJ (ae rfl hc) rfl) (aU rfl (cK rfl rfl (fun h => gf rfl h)) (aM rfl (GO 0 rfl rfl rfl ?_))))))))))))))
 refine GL 0 tk9 rfl rfl rfl rfl rfl (aG rfl rfl (fun hc => cj Tryz.underlying9 (ae rfl hc)) (aG rfl rfl (fun hc => cJ (ae rfl hc) rfl) (aU rfl (cK rfl rfl (fun h => gf rfl h)) (aM rfl (GO 8 rfl rfl rfl (GL 0 tk22 rfl rfl rfl rfl rfl (aG rfl rfl (fun hc => aW Tryz.underlying22 (ae rfl hc)) (aG rfl rfl (fun hc => cJ (ae rfl hc) rfl) (aU rfl (cK rfl rfl (fun h => gf rfl h)) (aM rfl (GO 9 rfl rfl rfl ?_)))))))))))
 refine GL 0 tk23 rfl rfl rfl rfl rfl (aG rfl rfl (fun hc => aW Tryz.underlying23 (ae rfl hc)) (aG rfl rfl (fun hc => cJ (ae rfl hc) rfl) (aU rfl (cK rfl rfl (fun h => gf rfl h)) (aM rfl (GO 10 rfl rfl rfl (GL 0 tk24 rfl rfl rfl rfl rfl (aG rfl rfl (fun hc => aW Tryz.underlying24 (ae rfl hc)) (aG rfl rfl (fun hc => cJ (ae rfl hc) rfl) (aU rfl (cK rfl rfl (fun h => gf rfl h)) (aM rfl (GO 11 rfl rfl rfl ?_)))))))))))
 refine GL 0 tk25 rfl rfl rfl rfl rfl (aG rfl rfl (fun hc => aW Tryz.underlying25 (ae rfl hc)) (aG rfl rfl (fun hc => cJ (ae rfl hc) rfl) (aU rfl (cK rfl rfl (fun h => gf rfl h)) (aM rfl (GO 12 rfl rfl rfl (GL 0 tk25 rfl rfl rfl rfl rfl (aG rfl rfl (fun hc => aW Tryz.underlying25 (ae rfl hc)) (aG rfl rfl (fun hc => cJ (ae rfl hc) rfl) (aU rfl (cK rfl rfl (fun h => gf rfl h)) (aM rfl (GO 13 rfl rfl rfl ?_)))))))))))
 refine GL 0 tk26 rfl rfl rfl rfl rfl (aG rfl rfl (fun hc => aW Tryz.underlying26 (ae rfl hc)) (aG rfl rfl (fun hc => cJ (ae rfl hc) rfl) (aU rfl (cK rfl rfl (fun h => gf rfl h)) (aM rfl (GO 14 rfl rfl rfl (GL 0 tk25 rfl rfl rfl rfl rfl (aG rfl rfl (fun hc => aW Tryz.underlying25 (ae rfl hc)) (aG rfl rfl (fun hc => cJ (ae rfl hc) rfl) (aU rfl (cK rfl rfl (fun h => gf rfl h)) (aM rfl (GO 15 rfl rfl rfl ?_)))))))))))
 refine GL 0 tk25 rfl rfl rfl rfl rfl (aG rfl rfl (fun hc => aW Tryz.underlying25 (ae rfl hc)) (aG rfl rfl (fun hc => cJ (ae rfl hc) rfl) (aU rfl (cK rfl rfl (fun h => gf rfl h)) (aM rfl (GO 17 rfl rfl rfl (GL 0 tk27 rfl rfl rfl rfl rfl (aG rfl rfl (fun hc => aW Tryz.underlying27 (ae rfl hc)) (aG rfl rfl (fun hc => cJ (ae rfl hc) rfl) (aU rfl (cK rfl rfl (fun h => gf rfl h)) (aM rfl (GO 18 rfl rfl rfl ?_)))))))))))
 refine GL 0 tk28 rfl rfl rfl rfl rfl (aG rfl rfl (fun hc => aW Tryz.underlying28 (ae rfl hc)) (aG rfl rfl (fun hc => cJ (ae rfl hc) rfl) (aU rfl (cK rfl rfl (fun h => gf rfl h)) (aM rfl (GO 25 rfl rfl rfl (GL 0 tk37 rfl rfl rfl rfl rfl (aG rfl rfl (fun hc => aW Tryz.underlying37 (ae rfl hc)) (aG rfl rfl (fun hc => cJ (ae rfl hc) rfl) (aU rfl (cK rfl rfl (fun h => gf rfl h)) (aNn ?_))))))))))
 refine ao _ rfl (fun h1 => ?_) (fun h1 => ?_)
 ·skip
  refine aSR (aA rfl (aNn (az (bu (FZ1 [] Tryz.results8 rfl ?_)))))
  exact ⟨⟨rfl, rfl⟩, _, rfl, fun h => by cases h⟩
 ·skip
  refine ar (an (aSR (UO 19 rfl rfl (UL 0 tk36 rfl rfl rfl rfl (LT rfl (bI (zs := [.slice none 0 0, .slice none 0 0, .slice none 0 0, .slice none 0 0, .slice none 0 0, .slice none 0 0]) (by kernel_rfl) rfl (fun b3_2 => (aHN ?_))))))))
  refine aT rfl (bg 1 tk36 rfl rfl rfl rfl (aHK ?_))
  refine aNs (aSR (UO 0 rfl rfl (UL 1 tk29 rfl rfl rfl rfl (aU rfl (aW Tryz.underlying29 rfl) (aU rfl (cJ rfl rfl) (aM rfl (GO 1 rfl rfl rfl (GL 1 tk30 rfl rfl rfl rfl rfl (aG rfl rfl (fun hc => aW Tryz.underlying30 (ae rfl hc)) (aG rfl rfl (fun hc => cJ (ae rfl hc) rfl) (aU rfl (cK rfl rfl (fun h => gf rfl h)) (aM rfl (GO 2 rfl rfl rfl ?_)))))))))))))
  refine GL 1 tk31 rfl rfl rfl rfl rfl (aG rfl rfl (fun hc => aW Tryz.underlying31 (ae rfl hc)) (aG rfl rfl (fun hc => cJ (ae rfl hc) rfl) (aU rfl (cK rfl rfl (fun h => gf rfl h)) (aM rfl (GO 3 rfl rfl rfl (GL 1 tk32 rfl rfl rfl rfl rfl (aG rfl rfl (fun hc => aW Tryz.underlying32 (ae rfl hc)) (aG rfl rfl (fun hc => cJ (ae rfl hc) rfl) (aU rfl (cK rfl rfl (fun h => gf rfl h)) (aM rfl (GO 4 rfl rfl rfl ?_)))))))))))
  refine GL 1 tk33 rfl rfl rfl rfl rfl (aG rfl rfl (fun hc => aW Tryz.underlying33 (ae rfl hc)) (aG rfl rfl (fun hc => cJ (ae rfl hc) rfl) (aU rfl (cK rfl rfl (fun h => gf rfl h)) (aM rfl (GO 5 rfl rfl rfl (GL 1 tk34 rfl rfl rfl rfl rfl (aG rfl rfl (fun hc => aW Tryz.underlying34 (ae rfl hc)) (aG rfl rfl (fun hc => cJ (ae rfl hc) rfl) (aU rfl (cK rfl rfl (fun h => gf rfl h)) (aNn ?_))))))))))
  refine ao _ rfl (fun h2 => ?_) (fun h2 => ?_)
  ·skip
   refine aSR (aA rfl (aNn (az (bu (FZ1 [] Tryz.results8 rfl ?_)))))
   exact ⟨⟨rfl, rfl⟩, _, rfl, fun h => by cases h⟩
  ·skip
   refine ar (an (aj (aSR (aA rfl (aNn (aq (bQ (.of (aD 1 rfl)) (fun hlv => (aQ [1, 4] [2, 1, 0] [0] (fun (k : Nat) st => k ≤ x.versions.l.length ∧ st = ⟨[(1, true, .pointer (some ⟨b0_0, 0, none⟩)), (4, true, .int .i64 k)], [ShF cr.row x.changes, ShF aF.row x.versions, x.ok], [Box b0_0 39 x.vs]⟩) (fun k => x.versions.l.length - k) rfl (⟨0, Nat.zero_le _, rfl⟩) ?_)))))))))
   rintro k st ⟨hk, rfl⟩
   refine aj (aSR (aM rfl (UO 18 rfl rfl (UL 0 tk28 rfl rfl rfl rfl (aU rfl (aW Tryz.underlying28 rfl) (aU rfl (bD rfl rfl) (aNn ?_)))))))
   refine ao _ rfl (fun h3 => ?_) (fun h3 => ?_)
   ·skip
    have hk' : k < x.versions.l.length := by simpa using h3
    obtain ⟨y, hx⟩ : ∃ y, x.versions.l[k]? = some y := ⟨_, List.getElem?_eq_getElem hk'⟩
    refine ar (an (aj (aq (aSR (UO 18 rfl rfl (UL 0 tk28 rfl rfl rfl rfl (aM rfl (UI Tryz.underlying28 tk62 1 rfl rfl rfl rfl rfl (aI hx) rfl rfl (fun ⟨b9_3, o9_3⟩ => (UO 1 rfl rfl (US 1 tk27 0 rfl rfl rfl rfl rfl (aU rfl (aW Tryz.underlying27 rfl) (aU rfl (cJ rfl rfl) (aNn ?_))))))))))))))
    refine ao _ rfl (fun h4 => ?_) (fun h4 => ?_)
    ·skip
     refine aSR (aA rfl (aNn (az (cM (bu (bu (cM (bu (FZ1 [] Tryz.results8 rfl ?_)))))))))
     exact ⟨⟨rfl, rfl⟩, _, rfl, fun h => by cases h⟩
    ·skip
     refine ar (bA (an (aa (aM rfl (aU rfl (aX rfl rfl (by omega)) (aA rfl (aNn ?_)))))))
     refine ⟨[1, 4], [2, 1, 0], [0], rfl, ?_⟩
     refine ⟨k + 1, ⟨hk', rfl⟩, by omega⟩
   ·skip
    refine aR (aS (aS (aZ (an (aj (aSR (aA rfl (aNn (aq (bQ (.of (aD 0 rfl)) (fun hlc => (aQ [1, 5] [2, 1, 0] [0] (fun (k : Nat) st => k ≤ x.changes.l.length ∧ st = ⟨[(1, true, .pointer (some ⟨b0_0, 0, none⟩)), (5, true, .int .i64 k)], [ShF cr.row x.changes, ShF aF.row x.versions, x.ok], [Box b0_0 39 x.vs]⟩) (fun k => x.changes.l.length - k) rfl (⟨0, Nat.zero_le _, rfl⟩) ?_))))))))))))
    rintro k st ⟨hk, rfl⟩
    refine aj (aSR (aM rfl (UO 25 rfl rfl (UL 0 tk37 rfl rfl rfl rfl (aU rfl (aW Tryz.underlying37 rfl) (aU rfl (bD rfl rfl) (aNn ?_)))))))
    refine ao _ rfl (fun h5 => ?_) (fun h5 => ?_)
    ·skip
     have hk' : k < x.changes.l.length := by simpa using h5
     obtain ⟨y, hx⟩ : ∃ y, x.changes.l[k]? = some y := ⟨_, List.getElem?_eq_getElem hk'⟩
     refine ar (an (aj (aq (aSR (UO 25 rfl rfl (UL 0 tk37 rfl rfl rfl rfl (aM rfl (UI Tryz.underlying37 tk65 0 rfl rfl rfl rfl rfl (aI hx) rfl rfl (fun ⟨b14_3, o14_3⟩ => (UO 3 rfl rfl (US 3 tk63 0 rfl rfl rfl rfl rfl (aU rfl (aW Tryz.underlying63 rfl) (aU rfl (cJ rfl rfl) (aNn ?_))))))))))))))
     refine ao _ rfl (fun h6 => ?_) (fun h6 => ?_)
     ·skip
      refine aSR (aA rfl (aNn (az (cM (bu (bu (cM (bu (FZ1 [] Tryz.results8 rfl ?_)))))))))
      exact ⟨⟨rfl, rfl⟩, _, rfl, fun h => by cases h⟩
     ·skip
      refine ar (bA (an (aa (aM rfl (aU rfl (aX rfl rfl (by omega)) (aA rfl (aNn ?_)))))))
      refine ⟨[1, 5], [2, 1, 0], [0], rfl, ?_⟩
      refine ⟨k + 1, ⟨hk', rfl⟩, by omega⟩
    ·skip
     refine aR (aS (aS (aZ (an (aSR (UL 0 tk39 rfl rfl rfl rfl (aU rfl (Q1 rfl ((jx x hW hl).post (fun _ _ _ h => h.2.2)) 2 rfl) (aU rfl (cj Tryz.underlying9 rfl) (aU rfl (eF rfl rfl) (aA rfl (aNn (az (FZ1 [] Tryz.results8 rfl ?_)))))))))))))
     refine ⟨⟨rfl, rfl⟩, _, rfl, fun h => ?_⟩
     have h' : ((bytesOf (ba.enc (aV x))).size : Int) ≤ 20000 := of_decide_eq_true h
     have e : (bytesOf (ba.enc (aV x))).size = (ba.enc (aV x)).length := rfl
     omega
end Go.Proofs.YtahgkiicjohonaaGreat

namespace Go.Sy
open Go.RowKit Go.Lp
theorem xC {w w' : World} {g j : Nat} (h : w'.heap[g]? = w.heap[g]?) : w'.cell? ⟨g, j, none⟩ = w.cell? ⟨g, j, none⟩ ∧ w'.frozen? ⟨g, j, none⟩ = w.frozen? ⟨g, j, none⟩ := by
 constructor
 · unfold World.cell?; dsimp only; rw [h]
 · unfold World.frozen?; dsimp only; rw [h]
def ByV (v : Value) (m : Nat) : Res :=
 ⟨fun w _ F => ∃ g c, v = .slice (some ⟨g, 0, none⟩) m c ∧ m ≤ c ∧ c ≤ maxLen ∧ (∀ j, j < c → (∃ u : UInt8, w.cell? ⟨g, j, none⟩ = some (.int .u8 u.toNat)) ∧ w.frozen? ⟨g, j, none⟩ = false) ∧ ∀ k, F k ↔ k = g,
  fun ⟨g, c, hv, h1, h2, h, hF⟩ hk _ _ => ⟨g, c, hv, h1, h2, fun j hj => by
    have e := xC (j := j) (hk g ((hF g).2 rfl))
    rw [e.1, e.2]; exact h j hj, hF⟩⟩
theorem ByV.setCell {w : World} {S F : bH} {v : Value} {m g c k : Nat} {u : UInt8} (hv : v = .slice (some ⟨g, 0, none⟩) m c) (h1 : m ≤ c) (h2 : c ≤ maxLen) (h : ∀ j, j < c → (∃ u : UInt8, w.cell? ⟨g, j, none⟩ = some (.int .u8 u.toNat)) ∧ w.frozen? ⟨g, j, none⟩ = false) (hF : ∀ b, F b ↔ b = g) (hk : k < c) (m' : Nat) (hm' : m' ≤ c) :
   (ByV (.slice (some ⟨g, 0, none⟩) m' c) m').holds (w.setCells g k [.int .u8 u.toNat]) S F := by
 refine ⟨g, c, rfl, hm', h2, fun j hj => ⟨?_, by rw [World.frozen?_setCells]; exact (h j hj).2⟩, hF⟩
 by_cases hjk : j = k
 · subst hjk
   refine ⟨u, ?_⟩
   have := World.cell?_setCells_in g [.int .u8 u.toNat] j w (fun i hi => by
     have hi0 : i = 0 := by simpa using hi
     subst hi0
     obtain ⟨⟨u', hu⟩, _⟩ := h j hj
     rw [Nat.add_zero, hu]; rfl) 0 (by simp)
   simpa using this
 · obtain ⟨⟨u', hu⟩, _⟩ := h j hj
   refine ⟨u', ?_⟩
   rw [World.cell?_setCells_out g _ k w _ (fun _ _ => by simp only [List.length_singleton]; omega)]
   exact hu
theorem dN (b : Nat) : ∀ (vs : List Value) (o : Nat) (w : World), (w.setCells b o vs).drawn = w.drawn ∧ (w.setCells b o vs).tape = w.tape ∧ (w.setCells b o vs).heap.size = w.heap.size
 | [], _, _ => ⟨rfl, rfl, rfl⟩
 | v :: vs, o, w => by
   obtain ⟨h1, h2, h3⟩ := dN b vs (o + 1) (w.setCell ⟨b, o, none⟩ v)
   exact ⟨h1, h2, h3.trans (by simp [World.setCell])⟩
def ByF (v : Value) (m : Nat) : Per :=
 ⟨fun w S => ∃ g c, v = .slice (some ⟨g, 0, none⟩) m c ∧ S g ∧ ∀ j, j < m → ∃ u : UInt8, w.cell? ⟨g, j, none⟩ = some (.int .u8 u.toNat),
  fun ⟨g, c, hv, hg, h⟩ hw hS => ⟨g, c, hv, hS g hg, fun j hj => by rw [(xC (j := j) (hw g hg)).1]; exact h j hj⟩⟩
theorem wU {P : Program} {n : Fr} {c : Code} {Q : Exit → Sta → Prop} {env : Env} {ps : List Per} {hp : List Res} {v : Value} {m : Nat} (i : Nat) (hi : hp[i]? = some (ByV v m)) (h : awp P n c Q ⟨env, ByF v m :: ps, hp.set i emp⟩) : awp P n c Q ⟨env, ps, hp⟩ :=
 jG i (ByF v m) hi (fun w S F ⟨g, c, hv, h1, h2, hB, hF⟩ => ⟨g, c, hv, .inr ((hF g).2 rfl), fun j hj => (hB j (by omega)).1⟩) h
section
variable {P : Program} {n : Fr} {env : Env} {ps : List Per} {hp : List Res} {d : Option Tmp} {ty : TypeId} {pos : String} {af : Array Edge} {gd : Option (Nat × Bool)} {K : Sta → Prop} {q : Bool} {v : Value}
theorem uy {t : Nat} {S T E : TypeId} {u : TypeDesc} {x : Operand} {b : ByteArray} (hS : P.underlying S = some u) (hT : P.underlying T = some (.slice E)) (hE : P.underlying E = some (.int .u8)) (hb : b.size ≤ 1000000000) (hx : ev env x = some (true, .string b)) (ht : fits n.size (some t) = true)
   (hK : ∀ v, K ⟨(t, true, v) :: env, ps, hp ++ [ByV v b.size]⟩) : Eff P n ⟨some t, .convert S T x, ty, pos, af, gd⟩ ⟨env, ps, hp⟩ q K := .push fun w S' fp a hst he hn => by
 have e1 := he.val hx rfl
 have hrun := Lib.run_convert_string_bytes (P := P) w S T E b hS hT hE
 have hexec : (execOp a.eval ⟨some t, .convert S T x, ty, pos, af, gd⟩).run P w = .ok (.value (.slice (some ⟨w.heap.size, 0, none⟩) b.size (grownCap w b.size 0 E))) (Lib.bytesWorld w E b) := by
   unfold execOp; dsimp only; rw [e1]
   show ((convert S T (.string b)).bind fun r => Sem.pure (Next.value r)).run P w = _
   rw [Sem.run_bind', hrun]; rfl
 rw [hexec]
 have hsz := Lib.bytesWorld_size w E b
 have hcap : b.size ≤ grownCap w b.size 0 E := grownCap_ge w b.size 0 E
 have hcs : (Lib.bytesCells w E b).size = grownCap w b.size 0 E := by
   unfold Lib.bytesCells
   simp
   show b.size + _ = _
   omega
 have hnew := Lib.bytesWorld_at_new w E b
 refine ⟨ByV _ b.size, (fun k => k = w.heap.size), _, hK _, rfl, rfl, he.put (g := true) (by rw [hn]; simpa [fits] using ht) _, ?_, ⟨w.heap.size, _, rfl, hcap, grownCap_le_maxLen w b.size 0 E (by unfold maxLen; omega), fun j hj => ⟨?_, ?_⟩, fun _ => Iff.rfl⟩, fun k hk => by subst hk; rw [hsz]; omega⟩
 · exact ⟨by unfold Lib.bytesWorld World.freeze; split <;> rfl, by unfold Lib.bytesWorld World.freeze; split <;> rfl, by unfold Lib.bytesWorld World.freeze; split <;> rfl, by omega, by
     have : (Lib.bytesWorld w E b).drawn = w.drawn + 1 := by unfold Lib.bytesWorld World.freeze; split <;> rfl
     omega, fun k hk => Lib.bytesWorld_at_old w E b k hk⟩
 · unfold World.cell?
   rw [hnew]
   dsimp only
   unfold Lib.bytesCells
   rw [Array.getElem?_append]
   by_cases h : j < b.size
   · refine ⟨b.data.toList.getD j 0, ?_⟩
     have hb : j < b.data.size := h
     simp [h, hb, List.getD]
   · refine ⟨0, ?_⟩
     have hb : ¬ j < b.data.size := h
     have hb2 : b.data.size = b.size := rfl
     simp [h, hb, Array.getElem?_replicate]
     omega
 · unfold World.frozen?
   rw [hnew]
   dsimp only
   rw [hcs]
   simp
   omega
theorem tp {x : Operand} {T E : TypeId} {m : Nat} (i : Nat) (hT : P.underlying T = some (.slice E)) (hx : ev env x = some (true, v)) (hi : hp[i]? = some (ByV v m)) : Quiet P n ⟨d, .call ⟨.builtin .len, #[x], #[T]⟩, ty, pos, af, gd⟩ ⟨env, ps, hp⟩ (.int .i64 m) := fun w S fp a hst he hn => by
 obtain ⟨g, c, rfl, _⟩ := hst.res i _ hi
 exact aW (P := P) (n := n) (s := ⟨env, ps, hp⟩) hT hx w S fp a hst he hn
theorem adK {x : Operand} {T E : TypeId} {m : Nat} (hi : ByF v m ∈ ps) (hT : P.underlying T = some (.slice E)) (hx : ev env x = some (true, v)) : Quiet P n ⟨d, .call ⟨.builtin .len, #[x], #[T]⟩, ty, pos, af, gd⟩ ⟨env, ps, hp⟩ (.int .i64 m) := fun w S fp a hst he hn => by
 obtain ⟨g, c, rfl, _⟩ := hst.per _ hi
 exact aW (P := P) (n := n) (s := ⟨env, ps, hp⟩) hT hx w S fp a hst he hn
theorem xy {x y : Operand} {T E : TypeId} {m : Nat} (i k : Nat) (hel : elB P T E 1 = true) (hx : ev env x = some (true, v)) (hi : hp[i]? = some (ByV v m)) {z : Int} (hy : ev env y = some (true, .int .i64 z)) (hz : z = (k : Int)) (hk : k < m) :
   Quiet P n ⟨d, .indexAddr T x y, ty, pos, af, gd⟩ ⟨env, ps, hp⟩ (.pointer (some ⟨kF v, k, none⟩)) := fun w S fp a hst he hn => by
 subst hz
 obtain ⟨hT, it, hit, _, hsz, _⟩ := dH hel
 have h1 := he.val hx rfl
 have h2 := he.val hy rfl
 obtain ⟨g, c, rfl, _⟩ := hst.res i _ hi
 have : (execOp a.eval ⟨d, .indexAddr T x y, ty, pos, af, gd⟩).run P w = .ok (.value (.pointer (some ⟨g, k, none⟩))) w := by
   unfold execOp; dsimp only; rw [h1, h2]
   show ((Instr.indexAt T (.slice (some ⟨g, 0, none⟩) m c) (.int .i64 k)).bind fun r => Sem.pure (Next.value r)).run P w = _
   have hE : P.elem T = E := by unfold Program.elem; rw [hT]
   rw [Sem.run_bind', run_indexAt_slice _ _ _ _ _ _ _ (by rw [hE]; exact hT), if_pos (by omega), hE, dx hit, hsz]
   simp only [Result.andThen, Int.toNat_natCast]
   unfold Addr.add
   split
   · rename_i h0; simp at h0; subst h0; rfl
   · simp only [Nat.zero_add, Nat.mul_one]; rfl
 rw [this]; exact cg _ _
theorem abY {x : Operand} {U : TypeId} {k m : Nat} (i : Nat) (hk : tyk P U = some (false, 1)) (hx : ev env x = some (true, .pointer (some ⟨kF v, k, none⟩))) (hi : hp[i]? = some (ByV v m)) (hkm : k < m) :
   jA P n ⟨d, .load U x, ty, pos, af, gd⟩ ⟨env, ps, hp⟩ (fun u : UInt8 => .int .u8 u.toNat) (fun _ => [Fa True]) := fun w S fp a hst he hn => by
 have h1 := he.val hx rfl
 obtain ⟨g, c, rfl, hmc, hcm, hB, hF⟩ := hst.res i _ hi
 obtain ⟨⟨u, hu⟩, _⟩ := hB k (by omega)
 have hg : g < w.heap.size := (hst.lt i (List.getElem?_eq_some_iff.1 hi).1 g ((hF g).2 rfl)).1
 refine ⟨u, fun w1 hw1 => ?_, fun p hp => by rw [List.mem_singleton.1 hp]; trivial⟩
 have hu1 : w1.cell? ⟨g, k, none⟩ = some (.int .u8 u.toNat) := by rw [(xC (hw1.block g hg)).1]; exact hu
 have : (execOp a.eval ⟨d, .load U x, ty, pos, af, gd⟩).run P w1 = .ok (.value (.int .u8 u.toNat)) w1 := by
   unfold execOp; dsimp only; rw [h1]
   have hr := lx (P := P) (w := w1) (T := U) hk (b := g) (o := 0) (cs := [.int .u8 u.toNat]) (v := .int .u8 u.toNat) rfl (p := k) (fun j y hj => by
     cases j with
     | zero => simp at hj; subst hj; exact hu1
     | succ j => simp at hj)
   show ((loadVar U ⟨g, k, none⟩).bind fun r => Sem.pure (Next.value r)).run P w1 = _
   rw [Sem.run_bind']
   rw [show k = k + 0 by omega, hr]; rfl
 rw [this]; exact cg _ _
theorem ad7 {x y : Operand} {T E : TypeId} {m : Nat} (k : Nat) (hi : ByF v m ∈ ps) (hel : elB P T E 1 = true) (hx : ev env x = some (true, v)) {z : Int} (hy : ev env y = some (true, .int .i64 z)) (hz : z = (k : Int)) (hk : k < m) :
   Quiet P n ⟨d, .indexAddr T x y, ty, pos, af, gd⟩ ⟨env, ps, hp⟩ (.pointer (some ⟨kF v, k, none⟩)) := fun w S fp a hst he hn => by
 subst hz
 obtain ⟨hT, it, hit, _, hsz, _⟩ := dH hel
 have h1 := he.val hx rfl
 have h2 := he.val hy rfl
 obtain ⟨g, c, rfl, _⟩ := hst.per _ hi
 have : (execOp a.eval ⟨d, .indexAddr T x y, ty, pos, af, gd⟩).run P w = .ok (.value (.pointer (some ⟨g, k, none⟩))) w := by
   unfold execOp; dsimp only; rw [h1, h2]
   show ((Instr.indexAt T (.slice (some ⟨g, 0, none⟩) m c) (.int .i64 k)).bind fun r => Sem.pure (Next.value r)).run P w = _
   have hE : P.elem T = E := by unfold Program.elem; rw [hT]
   rw [Sem.run_bind', run_indexAt_slice _ _ _ _ _ _ _ (by rw [hE]; exact hT), if_pos (by omega), hE, dx hit, hsz]
   simp only [Result.andThen, Int.toNat_natCast]
   unfold Addr.add
   split
   · rename_i h0; simp at h0; subst h0; rfl
   · simp only [Nat.zero_add, Nat.mul_one]; rfl
 rw [this]; exact cg _ _
theorem ac7 {x : Operand} {U : TypeId} {k m : Nat} (hi : ByF v m ∈ ps) (hk : tyk P U = some (false, 1)) (hx : ev env x = some (true, .pointer (some ⟨kF v, k, none⟩))) (hkm : k < m) :
   jA P n ⟨d, .load U x, ty, pos, af, gd⟩ ⟨env, ps, hp⟩ (fun u : UInt8 => .int .u8 u.toNat) (fun _ => [Fa True]) := fun w S fp a hst he hn => by
 have h1 := he.val hx rfl
 obtain ⟨g, c, rfl, hS, hB⟩ := hst.per _ hi
 obtain ⟨u, hu⟩ := hB k hkm
 have hg : g < w.heap.size := hst.slt g hS
 refine ⟨u, fun w1 hw1 => ?_, fun p hp => by rw [List.mem_singleton.1 hp]; trivial⟩
 have hu1 : w1.cell? ⟨g, k, none⟩ = some (.int .u8 u.toNat) := by rw [(xC (hw1.block g hg)).1]; exact hu
 have : (execOp a.eval ⟨d, .load U x, ty, pos, af, gd⟩).run P w1 = .ok (.value (.int .u8 u.toNat)) w1 := by
   unfold execOp; dsimp only; rw [h1]
   have hr := lx (P := P) (w := w1) (T := U) hk (b := g) (o := 0) (cs := [.int .u8 u.toNat]) (v := .int .u8 u.toNat) rfl (p := k) (fun j y hj => by
     cases j with
     | zero => simp at hj; subst hj; exact hu1
     | succ j => simp at hj)
   show ((loadVar U ⟨g, k, none⟩).bind fun r => Sem.pure (Next.value r)).run P w1 = _
   rw [Sem.run_bind']
   rw [show k = k + 0 by omega, hr]; rfl
 rw [this]; exact cg _ _
theorem aaJ {x y : Operand} {U : TypeId} {k m : Nat} {u : UInt8} (i : Nat) (hk : tyk P U = some (false, 1)) (hx : ev env x = some (true, .pointer (some ⟨kF v, k, none⟩))) (hy : ev env y = some (true, .int .u8 u.toNat)) (hi : hp[i]? = some (ByV v m)) (hkm : k < m) (hK : K ⟨env, ps, hp⟩) :
   Eff P n ⟨none, .store U x y, ty, pos, af, gd⟩ ⟨env, ps, hp⟩ false K := .change i hi fun w S fp a hst he hn hR => by
 have e1 := he.val hx rfl
 have e2 := he.val hy rfl
 obtain ⟨_, it, _, hit, _, hjk⟩ := iu hk
 obtain ⟨g, c, rfl, hmc, hcm, hB, hF⟩ := hR
 obtain ⟨⟨u', hu⟩, hfz⟩ := hB k (by omega)
 have : (execOp a.eval ⟨none, .store U x y, ty, pos, af, gd⟩).run P w = .ok .skip (w.setCells g k [.int .u8 u.toNat]) := by
   show ((Instr.storeAt U (a.eval x) (a.eval y)).bind fun _ => Sem.pure Next.skip).run P w = _
   rw [e1, e2, Sem.run_bind']
   have : (Instr.storeAt U (.pointer (some ⟨g, k, none⟩)) (.int .u8 u.toNat)).run P w = .ok () (w.setCells g k [.int .u8 u.toNat]) := by
     show (storeVar U ⟨g, k, none⟩ (.int .u8 u.toNat)).run P w = _
     unfold storeVar
     simp only [Sem.run_bind, dx hit, Result.andThen]
     rw [if_neg (by rw [hjk]; exact fun h => h rfl)]
     show (storeCells ⟨g, k, none⟩ [.int .u8 u.toNat] 0).run P w = _
     have ha : (⟨g, k, none⟩ : Addr).add 0 = ⟨g, k, none⟩ := by unfold Addr.add; simp
     simp only [storeCells, Sem.run_bind, ha]
     rw [run_store P w _ _ _ rfl, hu]
     simp only [hfz]
     rfl
   show (Result.andThen ((Instr.storeAt U (.pointer (some ⟨g, k, none⟩)) (.int .u8 u.toNat)).run P w) _) = _
   rw [this]; rfl
 rw [this]
 refine ⟨ByV _ m, ⟨env, ps, hp⟩, hK, rfl, ?_, he, ByV.setCell rfl hmc hcm hB hF (by omega) m hmc, World.os_setCells _ _ _ _, (dN _ _ _ _).2.1, ⟨World.output_setCells _ _ _ _, (dN _ _ _ _).1⟩, Nat.le_of_eq (dN _ _ _ _).2.2.symm, fun b hb hne => World.heap_setCells_other _ _ _ _ hb (fun h => hne ((hF b).2 h))⟩
 apply List.ext_getElem?
 intro j
 rw [List.getElem?_set]
 by_cases hj : i = j
 · subst hj; rw [if_pos rfl, if_pos (List.getElem?_eq_some_iff.1 hi).1]; exact hi
 · rw [if_neg hj]
theorem se {t : Nat} {x y : Operand} {T tx E : TypeId} {m : Nat} {vy : Value} {u : UInt8} (i j : Nat) (hel : elB P T E 1 = true) (hel2 : elB P tx E 1 = true) (hby : (P.info? E).map (fun i => (i.zero.map fun z => z.cells.toList)) = some (some [.int .u8 0]))
   (hx : ev env x = some (true, v)) (hy : ev env y = some (true, vy)) (ht : fits n.size (some t) = true) (hi : hp[i]? = some (ByV v m)) (hj : hp[j]? = some (aN vy E 1 [[.v (.int .u8 u.toNat)]])) (hm : m ≤ 100000000)
   (hK : ∀ v', K ⟨(t, true, v') :: env, ps, hp.set i (ByV v' (m + 1))⟩) :
   Eff P n ⟨some t, .call ⟨.builtin .append, #[x, y], #[T, tx]⟩, ty, pos, af, gd⟩ ⟨env, ps, hp⟩ false K := fun w S fp a hst he hn => by
 have e1 := he.val hx rfl
 have e2 := he.val hy rfl
 have hil := (List.getElem?_eq_some_iff.1 hi).1
 obtain ⟨hT, it, hin, hzz, hsz, hb4⟩ := dH hel
 obtain ⟨news, hnews, hsrc⟩ := (ea (P := P) (env := env) (ps := ps) (hp := hp) j hel2 hj (by simp)).src w S fp hst
 have hnl := hnews.len
 have hn1 : news = [.int .u8 u.toNat] := by
   obtain ⟨y0, hy0, hr⟩ := hnews.rep 0 0 _ (.v (.int .u8 u.toNat)) rfl rfl
   rw [jY hr] at hy0
   match news, hnl, hy0 with
   | [a], _, h => simp at h; rw [h]
 subst hn1
 obtain ⟨g, c, rfl, hmc, hcm, hB, hF⟩ := hst.res i _ hi
 have hexec : execOp a.eval ⟨some t, .call ⟨.builtin .append, #[x, y], #[T, tx]⟩, ty, pos, af, gd⟩ = (Builtin.append_ #[T, tx] ty (#[x, y].map a.eval)).bind fun r => Sem.pure (Next.value r) := rfl
 have hargs : #[x, y].map a.eval = #[.slice (some ⟨g, 0, none⟩) m c, vy] := by simp [e1, e2]
 rw [hexec, hargs, Sem.run_bind']
 have fin : ∀ (w1 : World) (v' : Value) (F : bH), (Builtin.append_ #[T, tx] ty #[.slice (some ⟨g, 0, none⟩) m c, vy]).run P w = .ok v' w1 → (ByV v' (m + 1)).holds w1 S F → (∀ b, F b → (fp i b ∨ w.heap.size ≤ b) ∧ b < w1.heap.size) → w.heap.size ≤ w1.heap.size →
     (∀ b', b' < w.heap.size → ¬ fp i b' → w1.heap[b']? = w.heap[b']?) → w1.os = w.os → w1.tape = w.tape → w1.output = w.output →
     gm P (fun u w' => ∃ s' S' fp', K s' ∧ St w' S' fp' s'.ps s'.hp ∧ dt (a.put (some t) u) s'.env ∧ Evo w S (tot fp hp.length) w' S' ∧ (∀ b, tot fp' s'.hp.length b → tot fp hp.length b ∨ w.heap.size ≤ b) ∧ (false = true → Below w.heap.size w w'))
       (((Builtin.append_ #[T, tx] ty #[.slice (some ⟨g, 0, none⟩) m c, vy]).run P w).andThen fun r w' => (Sem.pure (Next.value r)).run P w') := by
   intro w1 v' F hrun hR hFb hsz1 hw1 o1 o2 o3
   rw [hrun]
   have hst' := hst.change2 hil hsz1 hw1 _ F hR hFb
   refine ⟨_, S, _, hK v', hst', he.put (g := true) (by rw [hn]; simpa [fits] using ht) _, ⟨o1, o2, o3, hsz1, mQ _ _ _ _ hrun, fun b' hb' hx' => hw1 b' hb' (fun hf => hx' ⟨i, hil, hf⟩), fun _ h => h, fun _ h => .inl h⟩, fun b' ⟨k, hk, hbk⟩ => ?_, fun h => by cases h⟩
   have hk' : k < hp.length := by simpa using hk
   dsimp only at hbk
   by_cases hki : k = i
   · rw [if_pos hki] at hbk
     exact ((hFb b' hbk).1).imp (fun h => ⟨i, hil, h⟩) id
   · rw [if_neg hki] at hbk; exact .inl ⟨k, hk', hbk⟩
 by_cases hroom : m + 1 ≤ c
 · obtain ⟨⟨u', hu⟩, hfz⟩ := hB m (by omega)
   have hstc : (storeCells ⟨g, m, none⟩ [.int .u8 u.toNat] 0).run P w = .ok () (w.setCells g m [.int .u8 u.toNat]) := by
     have ha : (⟨g, m, none⟩ : Addr).add 0 = ⟨g, m, none⟩ := by unfold Addr.add; simp
     simp only [storeCells, Sem.run_bind, ha]
     rw [run_store P w _ _ _ rfl, hu]
     simp only [hfz]
     rfl
   have hrun : (Builtin.append_ #[T, tx] ty #[.slice (some ⟨g, 0, none⟩) m c, vy]).run P w = .ok (.slice (some ⟨g, 0, none⟩) (m + 1) c) (w.setCells g m [.int .u8 u.toNat]) := by
     have hs1 : it.size = 1 := hsz
     have hl := hsrc.len
     have hcl := hsrc.cells
     simp only [List.length_cons, List.length_nil, Nat.zero_add] at hl hcl
     rcases hsrc.kind with ⟨e', hk⟩ | hk <;> simp [Builtin.append_, run_underlying hT, run_underlying hk, sizeOf, typeInfo, hin, hs1, hl, hroom, hcl, Addr.add_lit, hstc]
   exact fin _ _ (fun k => k = g) hrun (ByV.setCell rfl hmc hcm hB (fun _ => Iff.rfl) (by omega) (m + 1) hroom) (fun b hb => by subst hb; exact ⟨.inl ((hF b).2 rfl), by rw [(dN _ _ _ _).2.2]; exact (hst.lt i hil b ((hF b).2 rfl)).1⟩) (Nat.le_of_eq (dN _ _ _ _).2.2.symm)
     (fun b hb hne => World.heap_setCells_other _ _ _ _ hb (fun h => hne ((hF b).2 h))) (World.os_setCells _ _ _ _) (dN _ _ _ _).2.1 (World.output_setCells _ _ _ _)
 · obtain ⟨f, hf⟩ := Classical.skolem.1 (fun j : Nat => show ∃ u : UInt8, j < c → w.cell? ⟨g, j, none⟩ = some (.int .u8 u.toNat) from by
     by_cases h : j < c
     · obtain ⟨⟨u, hu⟩, _⟩ := hB j h; exact ⟨u, fun _ => hu⟩
     · exact ⟨0, fun h2 => absurd h2 h⟩)
   obtain ⟨z, hz, hzc⟩ : ∃ z, it.zero = some z ∧ z.cells.toList = [.int .u8 0] := by
     rw [hin] at hby
     cases hz : it.zero with
     | none => rw [Option.map_some, hz] at hby; simp at hby
     | some z => rw [Option.map_some, hz] at hby; exact ⟨z, rfl, by simpa using hby⟩
   have hzs : z.cells.size = it.size := by rw [hsz]; have := congrArg List.length hzc; simpa using this
   have hfc : (Builtin.firstCells it.size m (.slice (some ⟨g, 0, none⟩) m c)).run P w.drew = .ok ((List.range m).map fun j => Value.int .u8 (f j).toNat).toArray w.drew := by
     refine run_firstCells_some (P := P) w.drew it.size m ⟨g, 0, none⟩ m c _ (by simp [hsz]) (fun j y hj => ?_)
     have hjl := (List.getElem?_eq_some_iff.1 hj).1
     rw [List.length_map, List.length_range] at hjl
     rw [List.getElem?_map, List.getElem?_range hjl] at hj
     simp only [Option.map_some, Option.some.injEq] at hj
     subst hj
     have : (⟨g, 0, none⟩ : Addr).add j = ⟨g, j, none⟩ := by
       unfold Addr.add
       by_cases h : j = 0
       · subst h; simp
       · simp [h]
     rw [this]
     exact hf j (by omega)
   have hbytes : Builtin.nextslicecap (m + 1) c * it.bytes ≤ 281474976710656 := by
     have h1 := Go.Lp.nextslicecap_le (m + 1) c
     have h2 : Builtin.nextslicecap (m + 1) c * it.bytes ≤ 5000000000 * 4096 := Nat.mul_le_mul (by omega) hb4
     omega
   rw [← hsz] at hsrc
   have hr := run_append_grow_src (P := P) (w := w) T tx ty E it z hT hin hz (some ⟨g, 0, none⟩) m c _ hfc vy 1 _ hsrc (by omega) (by omega) hbytes
   have hC := grownCap_ge w (m + 1) c E
   refine fin _ _ (fun k => k = w.heap.size) hr ⟨w.heap.size, _, rfl, hC, grownCap_le_maxLen w (m + 1) c E (by unfold maxLen; omega), fun j hj => ?_, fun _ => Iff.rfl⟩ (fun b hb => by subst hb; exact ⟨.inr (Nat.le_refl _), by simp⟩) (by simp) (fun b' hb' _ => ((Below.refl _ w).drew.alloc (Nat.le_refl _) _).block b' hb') rfl rfl rfl
   have hz1 : z.cells = #[.int .u8 0] := Array.ext' hzc
   have hnew := heap_alloc_new w.drew (.cells ((((List.range m).map fun j => Value.int .u8 (f j).toNat) ++ [Value.int .u8 u.toNat]).toArray ++ Builtin.zeroCells z.cells (grownCap w (m + 1) c E - (m + 1))) E)
   have hnew2 : (w.drew.alloc (.cells ((((List.range m).map fun j => Value.int .u8 (f j).toNat) ++ [Value.int .u8 u.toNat]).toArray ++ Builtin.zeroCells z.cells (grownCap w (m + 1) c E - (m + 1))) E)).heap[w.heap.size]? = _ := hnew
   refine ⟨?_, by unfold World.frozen?; dsimp only; rw [hnew2]; simp⟩
   unfold World.cell?
   dsimp only
   rw [hnew2]
   dsimp only
   rw [hz1]
   by_cases hjm : j < m
   · exact ⟨f j, by simp [Array.getElem?_append, List.getElem?_append, hjm, Nat.lt_succ_of_lt hjm]⟩
   · by_cases hje : j = m
     · subst hje; exact ⟨u, by simp [Array.getElem?_append, List.getElem?_append]⟩
     · refine ⟨0, ?_⟩
       have h1 : ¬ j < m + 1 := by omega
       simp [Array.getElem?_append, h1, Builtin.zeroCells]
       exact ⟨j - (m + 1), by rw [Array.getElem?_range, if_pos (by omega)], by rw [Nat.mod_one]; rfl⟩
end
end Go.Sy

namespace Go.Proofs.YtahgkiicjohonaaGreat
open Go.RowKit Go.Lp Go.Sy
open Go.Proofs.Tryz
attribute [local irreducible] aL aB awp aC fwp Quiet
abbrev gl : Int → List D := fun z => [.v (.int .u64 z)]
abbrev vL : Int → Value := fun z => .int .u64 z
theorem pw (x n : Int) (hn : 0 ≤ n ∧ n ≤ 64) : Con Tryz.prog 185 [.int .u64 x, .int .u64 n] [] [] (YN vL fun _ => True) := by
 refine EN2 Tryz.func185 rfl (aSR (aA rfl (aNs (aSR (aM rfl (aU rfl (ck rfl rfl) (aNn ?_)))))))
 refine ao _ rfl (fun h1 => ?_) (fun h1 => ?_)
 ·skip
  refine aSR (aM rfl (aA rfl (aNn (az (bu (FZ1 [] Tryz.results185 rfl ?_))))))
  exact ⟨⟨rfl, rfl⟩, _, rfl, trivial⟩
 ·skip
  refine ar (an (aSR (aM rfl (aM rfl ?_))))
  refine aU rfl (xJ rfl rfl (by exact hn.1)) ?_
  refine aM rfl (aM rfl (aU rfl (yd rfl rfl) ?_))
  refine aU rfl (abG rfl rfl (by rw [IntKind.wrap_u64]; omega)) ?_
  refine aU rfl (xD rfl rfl) (aA rfl (aNn (az (FZ1 [] Tryz.results185 rfl ?_))))
  exact ⟨⟨rfl, rfl⟩, _, rfl, trivial⟩
def tnL : List Int := [0, 1, 62, 28, 27, 36, 44, 6, 55, 20, 3, 10, 43, 25, 39, 41, 45, 15, 21, 8, 18, 2, 61, 56, 14]
theorem xa (k : Nat) (hk : k < 25) : Con Tryz.prog 186 [.int .i64 k] [] [] (YN vL fun z => 0 ≤ z ∧ z ≤ 64) := by
 have hb : ∀ z ∈ tnL, 0 ≤ z ∧ z ≤ 64 := by decide
 obtain ⟨z, hz⟩ : ∃ z, tnL[k]? = some z := ⟨_, List.getElem?_eq_getElem hk⟩
 have hzb := hb z (List.mem_of_getElem? hz)
 have hr : (tnL.map gl)[k]? = some (gl z) := aI hz
 refine EN1 Tryz.func186 rfl (aSR (aA rfl (aNn (aSR (LT rfl (WL (zs := [.int .u64 0]) el221 rfl rfl rfl (.more rfl (.v rfl .nil) (.more rfl (.v rfl .nil) (.more rfl (.v rfl .nil) (.more rfl (.v rfl .nil) (.more rfl (.v rfl .nil) (.more rfl (.v rfl .nil) (.more rfl (.v rfl .nil) (.more rfl (.v rfl .nil) (.more rfl (.v rfl .nil) (.more rfl (.v rfl .nil) (.more rfl (.v rfl .nil) (.more rfl (.v rfl .nil) (.more rfl (.v rfl .nil) (.more rfl (.v rfl .nil) (.more rfl (.v rfl .nil) (.more rfl (.v rfl .nil) (.more rfl (.v rfl .nil) (.more rfl (.v rfl .nil) (.more rfl (.v rfl .nil) (.more rfl (.v rfl .nil) (.more rfl (.v rfl .nil) (.more rfl (.v rfl .nil) (.more rfl (.v rfl .nil) (.more rfl (.v rfl .nil) (.more rfl (.v rfl .nil) .nil))))))))))))))))))))))))) rfl rfl (fun v1_0 => (aHN ?_))))))))
 refine aA rfl (aNn (aSR (aM rfl (aM rfl (aU rfl (ca 0 k el221 rfl rfl rfl rfl hk) (aU rfl (bJ 0 k 0 tk222 rfl rfl hr rfl rfl) (aA rfl (aNn (az (FZ1 [] Tryz.results186 rfl ?_))))))))))
 exact ⟨⟨rfl, rfl⟩, z, rfl, hzb⟩
def csL : List Int := [1, 32898, 9223372036854808714, 9223372039002292224, 32907, 2147483649, 9223372039002292353, 9223372036854808585, 138, 136, 2147516425, 2147483658, 2147516555, 9223372036854775947, 9223372036854808713, 9223372036854808579, 9223372036854808578, 9223372036854775936, 32778, 9223372039002259466, 9223372039002292353, 9223372036854808704, 2147483649, 9223372039002292232]
theorem uM (k : Nat) (hk : k < 24) : Con Tryz.prog 140 [.int .i64 k] [] [] (YN vL fun _ => True) := by
 obtain ⟨z, hz⟩ : ∃ z, csL[k]? = some z := ⟨_, List.getElem?_eq_getElem hk⟩
 have hr : (csL.map gl)[k]? = some (gl z) := aI hz
 refine EN1 Tryz.func140 rfl (aSR (aA rfl (aNn (aSR (LT rfl (WL (zs := [.int .u64 0]) el221 rfl rfl rfl (.more rfl (.v rfl .nil) (.more rfl (.v rfl .nil) (.more rfl (.v rfl .nil) (.more rfl (.v rfl .nil) (.more rfl (.v rfl .nil) (.more rfl (.v rfl .nil) (.more rfl (.v rfl .nil) (.more rfl (.v rfl .nil) (.more rfl (.v rfl .nil) (.more rfl (.v rfl .nil) (.more rfl (.v rfl .nil) (.more rfl (.v rfl .nil) (.more rfl (.v rfl .nil) (.more rfl (.v rfl .nil) (.more rfl (.v rfl .nil) (.more rfl (.v rfl .nil) (.more rfl (.v rfl .nil) (.more rfl (.v rfl .nil) (.more rfl (.v rfl .nil) (.more rfl (.v rfl .nil) (.more rfl (.v rfl .nil) (.more rfl (.v rfl .nil) (.more rfl (.v rfl .nil) (.more rfl (.v rfl .nil) .nil)))))))))))))))))))))))) rfl rfl (fun v1_0 => (aHN ?_))))))))
 refine aA rfl (aNn (aSR (aM rfl (aM rfl (aU rfl (ca 0 k el221 rfl rfl rfl rfl hk) (aU rfl (bJ 0 k 0 tk222 rfl rfl hr rfl rfl) (aA rfl (aNn (az (FZ1 [] Tryz.results140 rfl ?_))))))))))
 exact ⟨⟨rfl, rfl⟩, z, rfl, trivial⟩
theorem xb (v : Value) (m a : Nat) (ha : a + 8 ≤ m) (hm : m ≤ 1000000000) : Con Tryz.prog 138 [v, .int .i64 a] [ByF v m] [] (YN vL fun _ => True) := by
 refine EN2 Tryz.func138 rfl (aSR (aA rfl (aNn (aSR (aA rfl (aNs (aSR (aA rfl (aNn (aq (aQ [0, 1, 5, 6] [0] [] (fun (q : Nat) st => q ≤ 8 ∧ ∃ z, st = ⟨[(0, true, v), (1, true, .int .i64 a), (5, true, .int .u64 z), (6, true, .int .i64 ((q : Int) - 1))], [ByF v m], []⟩) (fun q => q) rfl (⟨8, Nat.le_refl _, 0, rfl⟩) ?_)))))))))))
 rintro k st ⟨hk, z, rfl⟩
 refine aj (aSR (aM rfl (aU rfl (fk rfl rfl) (aNn ?_))))
 refine ao _ rfl (fun h1 => ?_) (fun h1 => ?_)
 ·skip
  obtain ⟨j, rfl⟩ : ∃ j, k = j + 1 := ⟨k - 1, by simp at h1; omega⟩
  refine ar (an (aj (aq (aa (aM rfl (aU rfl (xJ rfl rfl (by decide)) (aM rfl (aM rfl (aM rfl (aU rfl (aX rfl rfl (by omega)) (aU rfl (ad7 (a + j) (aD 0 rfl) el67 rfl rfl (by omega) (by omega)) (iD true rfl rfl (fun _ => ac7 (aD 0 rfl) tk5 rfl (by omega)) (fun h => absurd h (by decide)) (fun u => (aU rfl (dh (by kernel_rfl) Tryz.underlying222 rfl) ?_))))))))))))))
  refine aU rfl (xD rfl rfl) (aA rfl (bS (bA (an (aa (aM rfl (aU rfl (cU rfl rfl (by omega)) (aA rfl (aNn ?_)))))))))
  refine ⟨[0, 1, 5, 6], [0], [], rfl, ?_⟩
  refine ⟨j, ⟨by omega, ?_⟩, by omega⟩
  have e : ((j + 1 : Nat) : Int) - 1 - 1 = (j : Int) - 1 := by omega
  rw [e]
  exact ⟨_, rfl⟩
 ·skip
  refine aR (aS (aS (aZ (an (aSR (aM rfl (aA rfl (aNn (az (FZ1 [] Tryz.results138 rfl ?_))))))))))
  exact ⟨⟨rfl, rfl⟩, z, rfl, trivial⟩
theorem abe {z : Int} {n : Nat} (h : z = (n : Int)) : z.tmod 5 = ((n % 5 : Nat) : Int) := by subst h; rfl
theorem u7 (va : Value) (l : List Int) (hl : l.length = 25) (c0 : Int) : Con Tryz.prog 139 [va, .int .u64 c0] [] [aN va 222 1 (l.map gl)] fun r ps hp => ps = [] ∧ ∃ l' : List Int, l'.length = 25 ∧ hp = [aN r 222 1 (l'.map gl)] := by
 refine EN2 Tryz.func139 rfl (eH 222 1 ?_)
 show awp _ _ _ _ ⟨_, _, [_, _]⟩
 refine aSR (aA rfl (aNn (aSR (aA rfl (aNs (aSR (aA rfl (aNn (aq (aQ [0, 1, 5, 6] [] [0, 1] (fun (q : Nat) st => q ≤ 5 ∧ ∃ (vp : Value) (pl : List Int), pl.length = q ∧ st = ⟨[(0, true, va), (1, true, .int .u64 c0), (5, true, vp), (6, true, .int .i64 q)], [], [aN va 222 1 (l.map gl), aN vp 222 1 (pl.map gl)]⟩) (fun q => 5 - q) rfl (⟨0, Nat.zero_le _, _, [], rfl, rfl⟩) ?_))))))))))
 rintro k st ⟨hk, vp, pl, hpl, rfl⟩
 refine aj (aSR (aM rfl (aU rfl (bD rfl rfl) (aNn ?_))))
 refine ao _ rfl (fun h1 => ?_) (fun h1 => ?_)
 ·skip
  have hk' : k < 5 := by simp at h1; omega
  obtain ⟨z0, hz0⟩ : ∃ z, l[k]? = some z := ⟨_, List.getElem?_eq_getElem (by omega)⟩
  obtain ⟨z1, hz1⟩ : ∃ z, l[k + 5]? = some z := ⟨_, List.getElem?_eq_getElem (by omega)⟩
  obtain ⟨z2, hz2⟩ : ∃ z, l[k + 10]? = some z := ⟨_, List.getElem?_eq_getElem (by omega)⟩
  obtain ⟨z3, hz3⟩ : ∃ z, l[k + 15]? = some z := ⟨_, List.getElem?_eq_getElem (by omega)⟩
  obtain ⟨z4, hz4⟩ : ∃ z, l[k + 20]? = some z := ⟨_, List.getElem?_eq_getElem (by omega)⟩
  refine ar (an (aj (aq (DR [30] 32 (VM 0 rfl rfl (VM 1 rfl rfl (VM 2 rfl rfl ?_)))))))
  refine bV 3 rfl rfl (ca 0 k el221 rfl rfl rfl rfl (by rw [List.length_map]; omega)) ?_
  refine bV 4 rfl rfl (bJ 0 k 0 tk222 rfl rfl (aI hz0) rfl rfl) (VM 5 rfl rfl (VM 6 rfl rfl (bV 7 rfl rfl (aX rfl rfl (by omega)) ?_)))
  refine bV 8 rfl rfl (ca 0 (k + 5) el221 rfl rfl rfl (by omega) (by rw [List.length_map]; omega)) ?_
  refine bV 9 rfl rfl (bJ 0 (k + 5) 0 tk222 rfl rfl (aI hz1) rfl rfl) (bV 10 rfl rfl (j9 rfl rfl) (VM 11 rfl rfl (VM 12 rfl rfl (bV 13 rfl rfl (aX rfl rfl (by omega)) ?_))))
  refine bV 14 rfl rfl (ca 0 (k + 10) el221 rfl rfl rfl (by omega) (by rw [List.length_map]; omega)) ?_
  refine bV 15 rfl rfl (bJ 0 (k + 10) 0 tk222 rfl rfl (aI hz2) rfl rfl) (bV 16 rfl rfl (j9 rfl rfl) (VM 17 rfl rfl (VM 18 rfl rfl (bV 19 rfl rfl (aX rfl rfl (by omega)) ?_))))
  refine bV 20 rfl rfl (ca 0 (k + 15) el221 rfl rfl rfl (by omega) (by rw [List.length_map]; omega)) ?_
  refine bV 21 rfl rfl (bJ 0 (k + 15) 0 tk222 rfl rfl (aI hz3) rfl rfl) (bV 22 rfl rfl (j9 rfl rfl) (VM 23 rfl rfl (VM 24 rfl rfl (bV 25 rfl rfl (aX rfl rfl (by omega)) ?_))))
  refine bV 26 rfl rfl (ca 0 (k + 20) el221 rfl rfl rfl (by omega) (by rw [List.length_map]; omega)) ?_
  refine bV 27 rfl rfl (bJ 0 (k + 20) 0 tk222 rfl rfl (aI hz4) rfl rfl) (bV 28 rfl rfl (j9 rfl rfl) (fh (q := true) 29 rfl (by kernel_rfl) rfl rfl (WL (zs := [.int .u64 0]) el221 rfl rfl rfl (.more rfl (.v rfl .nil) .nil) rfl rfl (fun v5_29 => (bST rfl ?_)))))
  refine fh 30 rfl (by kernel_rfl) rfl rfl (cT 1 el221 rfl rfl rfl rfl (ea 2 el221 rfl (by simp)) (by first | assumption | simp) (by rw [List.length_map]; show pl.length + 1 ≤ _; omega) ((k + 1)) (by rw [List.length_map, hpl]; rfl) (fun v5_30 c5_30 => ?_))
  refine bST rfl ?_
  refine bV 31 rfl rfl (bw rfl) (BN (bA (an (aa (aM rfl (aU rfl (aX rfl rfl (by omega)) (aA rfl (aNn ?_))))))))
  refine ⟨[0, 1, 5, 6], [], [0, 1], rfl, ?_⟩
  refine ⟨k + 1, ⟨by omega, ?_⟩, by omega⟩
  exact ⟨_, pl ++ [_], by rw [List.length_append, hpl]; rfl, by rw [List.map_append]; rfl⟩
 ·skip
  have hk5 : k = 5 := by simp at h1; omega
  subst hk5
  refine aR (aS (aS (aZ (an (aSR (LT rfl (gR (m := 25) (zs := [.int .u64 0]) el221 (by kernel_rfl) rfl (by decide) (dP rfl (rfl)) (dP rfl (rfl)) (by omega) rfl (fun v6_0 => (aHN ?_)))))))))
  refine aA rfl (aNs (aj ?_))
  refine iG 2 (aN _ _ 1 ((List.replicate 25 (0 : Int)).map gl)) rfl (fun _ _ _ h => by rw [List.map_replicate]; exact h) ?_
  refine aa (aA rfl (aNn (aq (aQ [0, 1, 5, 7, 8] [] [0, 1, 2] (fun (q : Nat) st => q ≤ 5 ∧ ∃ bl : List Int, bl.length = 25 ∧ st = ⟨[(0, true, va), (1, true, .int .u64 c0), (5, true, vp), (7, true, .slice v6_0 25 25), (8, true, .int .i64 q)], [], [aN va 222 1 (l.map gl), aN vp 222 1 (pl.map gl), aN (.slice v6_0 25 25) 222 1 (bl.map gl)]⟩) (fun q => 5 - q) rfl (⟨0, Nat.zero_le _, _, List.length_replicate, rfl⟩) ?_))))
  rintro k st ⟨hk, bl, hbl, rfl⟩
  refine aj (aSR (aM rfl (aU rfl (bD rfl rfl) (aNn ?_))))
  refine ao _ rfl (fun h2 => ?_) (fun h2 => ?_)
  ·skip
   have hk' : k < 5 := by simp at h2; omega
   refine ar (an (aj (aq (aSR (aA rfl (bS (an (aq (aQ [0, 1, 5, 7, 8, 9] [] [0, 1, 2] (fun (q : Nat) st => q ≤ 5 ∧ ∃ bl : List Int, bl.length = 25 ∧ st = ⟨[(0, true, va), (1, true, .int .u64 c0), (5, true, vp), (7, true, .slice v6_0 25 25), (8, true, .int .i64 k), (9, true, .int .i64 q)], [], [aN va 222 1 (l.map gl), aN vp 222 1 (pl.map gl), aN (.slice v6_0 25 25) 222 1 (bl.map gl)]⟩) (fun q => 5 - q) rfl (⟨0, Nat.zero_le _, bl, hbl, rfl⟩) ?_)))))))))
   clear hbl
   rintro j st ⟨hj, bl, hbl, rfl⟩
   refine aj (aSR (aM rfl (aU rfl (bD rfl rfl) (aNn ?_))))
   refine ao _ rfl (fun h3 => ?_) (fun h3 => ?_)
   ·skip
    have hj' : j < 5 := by simp at h3; omega
    obtain ⟨z0, hz0⟩ : ∃ z, l[k + 5 * j]? = some z := ⟨_, List.getElem?_eq_getElem (by omega)⟩
    obtain ⟨z1, hz1⟩ : ∃ z, pl[(k + 4) % 5]? = some z := ⟨_, List.getElem?_eq_getElem (by omega)⟩
    obtain ⟨z2, hz2⟩ : ∃ z, pl[(k + 1) % 5]? = some z := ⟨_, List.getElem?_eq_getElem (by omega)⟩
    obtain ⟨z3, hz3⟩ : ∃ z, bl[j + 5 * ((2 * k + 3 * j) % 5)]? = some z := ⟨_, List.getElem?_eq_getElem (by omega)⟩
    refine ar (an (aj (aq (aj (DR [] 23 (VM 0 rfl rfl (VM 1 rfl rfl (VM 2 rfl rfl (bV 3 rfl rfl (gw rfl rfl (by omega)) (bV 4 rfl rfl (aX rfl rfl (by omega)) ?_))))))))))
    refine bV 5 rfl rfl (ca 0 (k + 5 * j) el221 rfl rfl rfl (by omega) (by rw [List.length_map]; omega)) ?_
    refine bV 6 rfl rfl (bJ 0 (k + 5 * j) 0 tk222 rfl rfl (aI hz0) rfl rfl) (VM 7 rfl rfl (VM 8 rfl rfl (bV 9 rfl rfl (aX rfl rfl (by omega)) (bV 10 rfl rfl ((iF rfl rfl (by decide)).castV (v' := .int .i64 ((k + 4) % 5 : Nat)) (congrArg (Value.int .i64) (abe (by omega)))) ?_))))
    refine bV 11 rfl rfl (ca 1 ((k + 4) % 5) el221 rfl rfl rfl rfl (by rw [List.length_map]; omega)) ?_
    refine bV 12 rfl rfl (bJ 1 ((k + 4) % 5) 0 tk222 rfl rfl (aI hz1) rfl rfl) (bV 13 rfl rfl (j9 rfl rfl) (VM 14 rfl rfl (VM 15 rfl rfl (bV 16 rfl rfl (aX rfl rfl (by omega)) (bV 17 rfl rfl ((iF rfl rfl (by decide)).castV (v' := .int .i64 ((k + 1) % 5 : Nat)) (congrArg (Value.int .i64) (abe (by omega)))) ?_)))))
    refine bV 18 rfl rfl (ca 1 ((k + 1) % 5) el221 rfl rfl rfl rfl (by rw [List.length_map]; omega)) ?_
    refine bV 19 rfl rfl (bJ 1 ((k + 1) % 5) 0 tk222 rfl rfl (aI hz2) rfl rfl) ?_
    refine vD (caps := []) 20 rfl (by kernel_rfl) [] ((0 : Int)) (by kernel_rfl) true rfl rfl (fun _ => rfl) (fun hc => rfl) (fun hc => by rw [List.append_nil]; exact pw _ 1 (by decide)) (fun zl hzl => ?_)
    refine bV 21 rfl rfl (j9 rfl rfl) (bV 22 rfl rfl (bw rfl) (BN (an (aa (aM rfl (aM rfl (aM rfl (aU rfl (gw rfl rfl (by omega)) (aM rfl (aU rfl (gw rfl rfl (by omega)) (aU rfl (aX rfl rfl (by omega)) (aU rfl ((iF rfl rfl (by decide)).castV (v' := .int .i64 ((2 * k + 3 * j) % 5 : Nat)) (congrArg (Value.int .i64) (abe (by omega)))) (aU rfl (gw rfl rfl (by omega)) (aU rfl (aX rfl rfl (by omega)) ?_))))))))))))))
    refine aM rfl (aM rfl (aM rfl (aU rfl (gw rfl rfl (by omega)) (aU rfl ((aX rfl rfl (by omega)).castV (v' := .int .i64 (k + 5 * j : Nat)) (congrArg (Value.int .i64) (by omega))) ?_))))
    refine eT (caps := []) [] ((0 : Int)) (by kernel_rfl) true rfl rfl (fun _ => rfl) (fun hc => rfl) (fun hc => by rw [List.append_nil]; exact xa (k + 5 * j) (by omega)) (fun zt hzt => ?_)
    refine eT (caps := []) [] ((0 : Int)) (by kernel_rfl) true rfl rfl (fun _ => rfl) (fun hc => rfl) (fun hc => by rw [List.append_nil]; exact pw _ zt (hzt rfl)) (fun zr hzr => ?_)
    refine aU rfl (ca 2 (j + 5 * ((2 * k + 3 * j) % 5)) el221 rfl rfl rfl (by omega) (by rw [List.length_map]; omega)) ?_
    refine LF rfl (dC 2 (j + 5 * ((2 * k + 3 * j) % 5)) 0 tk222 rfl rfl rfl (aI hz3) rfl (.v rfl .nil) rfl (by decide) (aHK ?_))
    refine bS (bA (an ?_))
    refine iG 2 (aN _ _ 1 ((bl.set (j + 5 * ((2 * k + 3 * j) % 5)) zr).map gl)) rfl (fun _ _ _ h => by rw [List.map_set]; exact h) ?_
    refine aa (aM rfl (aU rfl (aX rfl rfl (by omega)) (aA rfl (aNn ?_))))
    refine ⟨[0, 1, 5, 7, 8, 9], [], [0, 1, 2], rfl, ?_⟩
    exact ⟨j + 1, ⟨by omega, bl.set _ zr, by rw [List.length_set]; exact hbl, rfl⟩, by omega⟩
   ·skip
    refine aR (aS (aS (aZ (bA (an (aa (aM rfl (aU rfl (aX rfl rfl (by omega)) (aA rfl (aNn ?_))))))))))
    refine ⟨[0, 1, 5, 7, 8], [], [0, 1, 2], rfl, ?_⟩
    exact ⟨k + 1, ⟨by omega, bl, hbl, rfl⟩, by omega⟩
  ·skip
   refine aR (aS (aS (aZ (an (aSR (aA rfl (aNs (aj (eH 222 1 ?_)))))))))
   show awp _ _ _ _ ⟨_, _, [_, _, _, _]⟩
   refine aa (aA rfl (aNn (aq (aQ [1, 7, 11, 12] [] [2, 3] (fun (q : Nat) st => q ≤ 5 ∧ ∃ (vo : Value) (ol : List Int), ol.length = 5 * q ∧ st = ⟨[(1, true, .int .u64 c0), (7, true, .slice v6_0 25 25), (11, true, vo), (12, true, .int .i64 q)], [], [aN (.slice v6_0 25 25) 222 1 (bl.map gl), aN vo 222 1 (ol.map gl)]⟩) (fun q => 5 - q) rfl (⟨0, Nat.zero_le _, _, [], rfl, rfl⟩) ?_))))
   rintro k st ⟨hk, vo, ol, hol, rfl⟩
   refine aj (aSR (aM rfl (aU rfl (bD rfl rfl) (aNn ?_))))
   refine ao _ rfl (fun h4 => ?_) (fun h4 => ?_)
   ·skip
    have hk' : k < 5 := by simp at h4; omega
    refine ar (an (aj (aq (aSR (aA rfl (bS (an (aq (aQ [1, 7, 11, 12, 13] [] [0, 1] (fun (q : Nat) st => q ≤ 5 ∧ ∃ (vo : Value) (ol : List Int), ol.length = 5 * k + q ∧ st = ⟨[(1, true, .int .u64 c0), (7, true, .slice v6_0 25 25), (11, true, vo), (12, true, .int .i64 k), (13, true, .int .i64 q)], [], [aN (.slice v6_0 25 25) 222 1 (bl.map gl), aN vo 222 1 (ol.map gl)]⟩) (fun q => 5 - q) rfl (⟨0, Nat.zero_le _, vo, ol, hol, rfl⟩) ?_)))))))))
    clear hol
    rintro j st ⟨hj, vo, ol, hol, rfl⟩
    refine aj (aSR (aM rfl (aU rfl (bD rfl rfl) (aNn ?_))))
    refine ao _ rfl (fun h5 => ?_) (fun h5 => ?_)
    ·skip
     have hj' : j < 5 := by simp at h5; omega
     obtain ⟨z0, hz0⟩ : ∃ z, bl[(j + 1) % 5 + 5 * k]? = some z := ⟨_, List.getElem?_eq_getElem (by omega)⟩
     obtain ⟨z1, hz1⟩ : ∃ z, bl[j + 5 * k]? = some z := ⟨_, List.getElem?_eq_getElem (by omega)⟩
     obtain ⟨z2, hz2⟩ : ∃ z, bl[(j + 2) % 5 + 5 * k]? = some z := ⟨_, List.getElem?_eq_getElem (by omega)⟩
     refine ar (an (aj (aq (aSR (aM rfl (aM rfl (aU rfl (aX rfl rfl (by omega)) (aU rfl ((iF rfl rfl (by decide)).castV (v' := .int .i64 ((j + 1) % 5 : Nat)) (congrArg (Value.int .i64) (abe (by omega)))) (aM rfl (aU rfl (gw rfl rfl (by omega)) (aU rfl (aX rfl rfl (by omega)) ?_)))))))))))
     refine aU rfl (ca 0 ((j + 1) % 5 + 5 * k) el221 rfl rfl rfl (by omega) (by rw [List.length_map]; omega)) ?_
     refine aU rfl (bJ 0 ((j + 1) % 5 + 5 * k) 0 tk222 rfl rfl (aI hz0) rfl rfl) (aU rfl (yd rfl rfl) (aA rfl (aNn (DR [21] 23 (VM 0 rfl rfl (VM 1 rfl rfl (VM 2 rfl rfl (VM 3 rfl rfl (bV 4 rfl rfl (gw rfl rfl (by omega)) (bV 5 rfl rfl (aX rfl rfl (by omega)) ?_))))))))))
     refine bV 6 rfl rfl (ca 0 (j + 5 * k) el221 rfl rfl rfl (by omega) (by rw [List.length_map]; omega)) ?_
     refine bV 7 rfl rfl (bJ 0 (j + 5 * k) 0 tk222 rfl rfl (aI hz1) rfl rfl) (VM 8 rfl rfl (VM 9 rfl rfl (VM 10 rfl rfl (bV 11 rfl rfl (aX rfl rfl (by omega)) (bV 12 rfl rfl ((iF rfl rfl (by decide)).castV (v' := .int .i64 ((j + 2) % 5 : Nat)) (congrArg (Value.int .i64) (abe (by omega)))) (VM 13 rfl rfl (bV 14 rfl rfl (gw rfl rfl (by omega)) (bV 15 rfl rfl (aX rfl rfl (by omega)) ?_))))))))
     refine bV 16 rfl rfl (ca 0 ((j + 2) % 5 + 5 * k) el221 rfl rfl rfl (by omega) (by rw [List.length_map]; omega)) ?_
     refine bV 17 rfl rfl (bJ 0 ((j + 2) % 5 + 5 * k) 0 tk222 rfl rfl (aI hz2) rfl rfl) (bV 18 rfl rfl (aa9 rfl rfl) (bV 19 rfl rfl (j9 rfl rfl) (fh (q := true) 20 rfl (by kernel_rfl) rfl rfl (WL (zs := [.int .u64 0]) el221 rfl rfl rfl (.more rfl (.v rfl .nil) .nil) rfl rfl (fun v23_20 => (bST rfl ?_))))))
     refine fh 21 rfl (by kernel_rfl) rfl rfl (cT 1 el221 rfl rfl rfl rfl (ea 2 el221 rfl (by simp)) (by first | assumption | simp) (by rw [List.length_map]; show ol.length + 1 ≤ _; omega) ((5 * k + j + 1)) (by rw [List.length_map, hol]; rfl) (fun v23_21 c23_21 => ?_))
     refine bST rfl ?_
     refine bV 22 rfl rfl (bw rfl) (BN (bA (an (aa (aM rfl (aU rfl (aX rfl rfl (by omega)) (aA rfl (aNn ?_))))))))
     refine ⟨[1, 7, 11, 12, 13], [], [0, 1], rfl, ?_⟩
     refine ⟨j + 1, ⟨by omega, ?_⟩, by omega⟩
     exact ⟨_, ol ++ [_], by rw [List.length_append, hol]; rfl, by rw [List.map_append]; rfl⟩
    ·skip
     have hj5 : j = 5 := by simp at h5; omega
     subst hj5
     refine aR (aS (aS (aZ (bA (an (aa (aM rfl (aU rfl (aX rfl rfl (by omega)) (aA rfl (aNn ?_))))))))))
     refine ⟨[1, 7, 11, 12], [], [0, 1], rfl, ?_⟩
     exact ⟨k + 1, ⟨by omega, vo, ol, by omega, rfl⟩, by omega⟩
   ·skip
    have hk5 : k = 5 := by simp at h4; omega
    subst hk5
    obtain ⟨z0, hz0⟩ : ∃ z, ol[0]? = some z := ⟨_, List.getElem?_eq_getElem (by omega)⟩
    refine aR (aS (aS (aZ (an (aSR (aM rfl (aM rfl ?_)))))))
    refine aU rfl (ca 1 0 el221 rfl rfl rfl rfl (by rw [List.length_map]; omega)) ?_
    refine aU rfl (bJ 1 0 0 tk222 rfl rfl (aI hz0) rfl rfl) (aM rfl (aU rfl (j9 rfl rfl) ?_))
    refine aU rfl (ca 1 0 el221 rfl rfl rfl rfl (by rw [List.length_map]; omega)) ?_
    refine LF rfl (dC 1 0 0 tk222 rfl rfl rfl (aI hz0) rfl (.v rfl .nil) rfl (by decide) (aHK ?_))
    refine aNs ?_
    refine lB 1 (fun x : {l : List Int // l.length = 25} => aN vo 222 1 (x.1.map gl)) rfl (fun w S F h => ⟨⟨ol.set 0 _, by rw [List.length_set]; exact hol⟩, by rw [List.map_set]; exact h⟩) (fun ⟨l', hl'⟩ => ?_)
    refine aa (aM rfl (aA rfl (aNn (az (FZ1 [1] Tryz.results139 rfl ?_)))))
    exact ⟨rfl, l', hl', rfl⟩
end Go.Proofs.YtahgkiicjohonaaGreat

