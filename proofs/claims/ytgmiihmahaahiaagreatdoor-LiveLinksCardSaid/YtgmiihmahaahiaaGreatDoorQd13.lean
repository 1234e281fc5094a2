/- Parts of the proof, in build order. No condition. -/
import Derived.Test.YtgmiihmahaahiaaGreatDoorQd12
import Derived.Test.YtgmiihmahaahiaaGreatDoorQd11
import Derived.Test.YtgmiihmahaahiaaGreatDoorQd07
import Derived.Test.YtgmiihmahaahiaaGreatDoorQd03
import Derived.Test.YtgmiihmahaahiaaGreatDoorQd05
import Derived.Test.YtgmiihmahaahiaaGreatDoorQd10
set_option linter.unusedSimpArgs false
set_option linter.unusedVariables false
set_option maxHeartbeats 1000000
set_option maxRecDepth 20000
namespace Go.Proofs.YtgmiihmahaahiaaGreatDoor
open Go.RowKit Go.Lp Go.Sy Go.Lv
open Go.Proofs.Tryz
attribute [local irreducible] aL aB awp aC fwp
theorem kT (os : List ax) : ∀ {i j : Nat}, i ≤ j → cF os i ≤ cF os j
 | i, 0, h => by obtain rfl : i = 0 := by omega
                 exact Nat.le_refl _
 | i, j + 1, h => by
   by_cases hij : i = j + 1
   · rw [hij]; exact Nat.le_refl _
   · have := kT os (i := i) (j := j) (by omega)
     show _ ≤ cF os j + _
     omega
theorem nt (os : List ax) {n : Nat} {o : Int} (h0 : 0 ≤ o) (h1 : o < n) : elt (dH os n) o = (cF os o.toNat : Int) := by
 unfold elt dH
 rw [List.getD_eq_getElem?_getD, List.getElem?_map, List.getElem?_range (by omega)]; rfl
def gD (os : List ax) (o s : Int) : Int := (cF os o.toNat : Int) + s
theorem i1 {os : List ax} {kp : List (Sl Bool)} {o s : Int} (h : cM os kp o s = true) : 0 ≤ gD os o s ∧ gD os o s < (cF os os.length : Int) := by
 obtain ⟨ho, hs, _⟩ := eV h
 have h1 : cF os (o.toNat + 1) ≤ cF os os.length := kT os (by omega)
 have h2 : cF os (o.toNat + 1) = cF os o.toNat + (elt os ((o.toNat : Nat) : Int)).secs.l.length := rfl
 rw [Int.toNat_of_nonneg ho.1] at h2
 unfold gD; omega
section
variable {x : bj} {ad : Option Addr} {cap : Nat}
theorem gE {o s : Int} (h : cM x.objs.l x.keep.l o s = true) : elt (dH x.objs.l x.objs.l.length) o + s = gD x.objs.l o s := by
 obtain ⟨ho, _⟩ := eV h
 rw [nt _ ho.1 ho.2]; rfl
theorem pU (hn : x.objs.l.length ≤ 4) (hs : ∀ o ∈ x.objs.l, o.secs.l.length ≤ 6) : uC (lkF x ad cap x.objs.l.length) where
 len := gW _ _
 bound o s h := by
   replace h : cM x.objs.l x.keep.l o s = true := h
   have h1 := gE h
   have h2 := i1 h
   have h3 := oI hs _ (Nat.le_refl _)
   obtain ⟨ho, hs', _⟩ := eV h
   have h4 : elt (dH x.objs.l x.objs.l.length) o = (cF x.objs.l o.toNat : Int) := nt _ ho.1 ho.2
   exact ⟨by show 0 ≤ elt (dH x.objs.l x.objs.l.length) o; omega, by show elt (dH x.objs.l x.objs.l.length) o + s ≤ _; omega⟩
theorem vd {o k z : Int} (h : cH (lkF x ad cap x.objs.l.length) o k = some z) : 0 ≤ z ∧ z < (cF x.objs.l x.objs.l.length : Int) := by
 unfold cH at h
 split at h
 · cases h
 · split at h
   · rename_i hk
     simp only [Option.some.injEq] at h
     subst h
     have hk' : cM x.objs.l x.keep.l (bP x.choices.l o k).obj (fV (lkF x ad cap x.objs.l.length) o k) = true := hk
     have := gE hk'
     show 0 ≤ elt (dH x.objs.l x.objs.l.length) _ + _ ∧ elt (dH x.objs.l x.objs.l.length) _ + _ < _
     rw [this]; exact i1 hk'
   · cases h
theorem tK {o s k : Int} : ∀ a ∈ gj (lkF x ad cap x.objs.l.length) o s k, jH (cF x.objs.l x.objs.l.length) a := fun a ha => by
 unfold gj at ha
 split at ha
 · rename_i h
   rw [Bool.and_eq_true] at h
   rw [List.mem_singleton.1 ha]
   obtain ⟨z, hz⟩ := Option.isSome_iff_exists.1 h.1
   have hk : cM x.objs.l x.keep.l o s = true := h.2
   refine ⟨?_, ?_⟩
   · show 0 ≤ elt (dH x.objs.l x.objs.l.length) _ + _ ∧ elt (dH x.objs.l x.objs.l.length) _ + _ < _
     rw [gE hk]; exact i1 hk
   · dsimp only; rw [hz]; exact vd hz
 · cases ha
theorem iZ : ∀ a ∈ eo (lkF x ad cap x.objs.l.length) x.objs.l.length, jH (cF x.objs.l x.objs.l.length) a := fun a ha => by
 unfold eo at ha
 obtain ⟨k, _, ha⟩ := List.mem_flatMap.1 ha
 unfold kJ at ha
 rcases List.mem_append.1 ha with ha | ha
 · unfold ep at ha
   obtain ⟨r, _, ha⟩ := List.mem_flatMap.1 ha
   exact tK a ha
 · unfold gn at ha
   obtain ⟨r, _, ha⟩ := List.mem_flatMap.1 ha
   exact tK a ha
end
abbrev oe (b : Bool) : Value := .bool b
def gh (N : Nat) (l : List Int) : List Bool := l.foldl (fun b v => b.set v.toNat true) (List.replicate N false)
theorem lv (N : Nat) (l : List Int) : (gh N l).length = N := by
 have : ∀ (l : List Int) (b : List Bool), (l.foldl (fun b v => b.set v.toNat true) b).length = b.length := by
   intro l
   induction l with
   | nil => intro b; rfl
   | cons v l ih => intro b; rw [List.foldl_cons, ih]; simp
 unfold gh; rw [this]; simp
theorem x1 (N : Nat) (l : List Int) {k : Nat} {v : Int} (h : l[k]? = some v) : gh N (l.take (k + 1)) = (gh N (l.take k)).set v.toNat true := by
 unfold gh; rw [List.take_add_one, h, List.foldl_append]; rfl
theorem xw (l : List Bool) (i : Nat) (v : Bool) : bS oe (l.set i v) = (bS oe l).set i [.v (oe v)] := by simp [bS, List.map_set]
theorem yi {l : List Bool} {k : Nat} {v : Bool} (h : l[k]? = some v) : (bS oe l)[k]? = some [.v (oe v)] := by simp [bS, h]
theorem pR {N : Nat} {b : List Int} {v : Int} (h : v ∈ fy N b) : 0 ≤ v ∧ v < N := by
 unfold fy at h
 obtain ⟨k, hk, rfl⟩ := List.mem_map.1 h
 have := List.mem_range.1 (List.mem_filter.1 hk).1
 omega
abbrev fK (t : Sl (Sl Bool)) : Per := cA (ShF (fun s : Sl Bool => [.v s.val]) t) (cv (ShF fun b => [.v (.bool b)]) t.l)
abbrev eX (t : Sl (Sl Bool)) : List (List Bool) := t.l.map (·.l)
def py (os : List ax) (ad : Option Addr) (k : Nat) : Value := .slice (if (elt os (k : Int)).secs.l.length = 0 then ad else ad.map (·.add (cF os k * 1))) (elt os (k : Int)).secs.l.length (elt os (k : Int)).secs.l.length
def j7 (os : List ax) (all : List Bool) (k : Nat) : List Bool := (all.drop (cF os k)).take (elt os (k : Int)).secs.l.length
def zT (os : List ax) (all : List Bool) (v : Option Addr) (k : Nat) : Sl Bool := ⟨if (elt os (k : Int)).secs.l.length = 0 then v else v.map (·.add (cF os k * 1)), (elt os (k : Int)).secs.l.length, j7 os all k⟩
def ea (x : bj) : List Int := fy (cF x.objs.l x.objs.l.length) (fw (cF x.objs.l x.objs.l.length) (eo x x.objs.l.length) (cY x x.objs.l.length))
def jr (x : bj) : List (List Bool) := (List.range x.objs.l.length).map (j7 x.objs.l (gh (cF x.objs.l x.objs.l.length) (ea x)))
theorem zj {α : Type} (l : List α) (z y : α) (n : Nat) (h : l.length < n) : (l ++ List.replicate (n - l.length) z).set l.length y = (l ++ [y]) ++ List.replicate (n - (l.length + 1)) z := by
 rw [List.set_append_right _ _ (Nat.le_refl _), Nat.sub_self]
 obtain ⟨k, hk⟩ : ∃ k, n - l.length = k + 1 := ⟨n - l.length - 1, by omega⟩
 rw [hk, show n - (l.length + 1) = k by omega, List.replicate_succ, List.set_cons_zero, List.append_assoc]; rfl
theorem lK {os : List ax} {all : List Bool} {k : Nat} (h : all.length = cF os os.length) (hk : k < os.length) : (j7 os all k).length = (elt os (k : Int)).secs.l.length ∧ cF os k + (elt os (k : Int)).secs.l.length ≤ all.length := by
 have h1 : cF os k + (elt os (k : Int)).secs.l.length ≤ cF os os.length := kT os (i := k + 1) (by omega)
 refine ⟨?_, by omega⟩
 unfold j7; rw [List.length_take, List.length_drop]; omega
theorem aak {os : List ax} {all : List Bool} {v ao : Option Addr} (h : all.length = cF os os.length) {w : World} {S F : bz}
   (hh : (eZ (bg (.slice v (cF os os.length) (cF os os.length)) 4 1 (bS oe all)) (bg (.slice ao os.length os.length) 68 1 ((List.range os.length).map fun i => [D.v (py os v i)]))).holds w S F) :
   (qk (fK ⟨ao, os.length, (List.range os.length).map (zT os all v)⟩)).holds w S F := by
 obtain ⟨G, H, hG, hH, _, he⟩ := hh
 have iG : sK (bg (.slice v (cF os os.length) (cF os os.length)) 4 1 (bS oe all)) := lT fun r hr d hd => by
   obtain ⟨b, _, rfl⟩ := List.mem_map.1 hr
   rw [List.mem_singleton.1 hd]; exact ⟨_, rfl⟩
 have iH : sK (bg (.slice ao os.length os.length) 68 1 ((List.range os.length).map fun i => [D.v (py os v i)])) := lT fun r hr d hd => by
   obtain ⟨b, _, rfl⟩ := List.mem_map.1 hr
   rw [List.mem_singleton.1 hd]; exact ⟨_, rfl⟩
 have rG := eO (iG _ _ (fun _ => False) _ hG)
 have rH := eO (iH _ _ (fun _ => False) _ hH)
 have hwin : ∀ i, i < os.length → (j7 os all i).length = (elt os (i : Int)).secs.l.length := fun i hi => (lK h hi).1
 refine ⟨?_, fun t ht => ?_⟩
 · have := rH.mono (fun _ _ => rfl) (S' := F) (fun b hb => (he b).2 (hb.elim False.elim .inr))
   show eU w F (.slice ao ((List.range os.length).map _).length os.length) (.sl (((List.range os.length).map _).map fun s : Sl Bool => [D.v s.val]))
   rw [List.length_map, List.length_range, List.map_map]
   have e : (List.range os.length).map (fun i => [D.v (py os v i)]) = (List.range os.length).map ((fun s : Sl Bool => [D.v s.val]) ∘ (zT os all v)) := by
     refine List.map_congr_left fun i hi => ?_
     show [D.v (py os v i)] = [D.v (.slice _ (j7 os all i).length _)]
     rw [hwin i (List.mem_range.1 hi)]; rfl
   rw [← e]; exact this
 · obtain ⟨i, hi, rfl⟩ := List.mem_map.1 ht
   have hi' := List.mem_range.1 hi
   have h1 := rG.mono (fun _ _ => rfl) (S' := F) (fun b hb => (he b).2 (hb.elim False.elim .inl))
   have h2 := aaM h1 (cF os i) (elt os (i : Int)).secs.l.length (by rw [cT]; exact (lK h hi').2) (sz := 1) (fun r hr => by obtain ⟨b, _, rfl⟩ := List.mem_map.1 hr; rfl)
   show eU w F (.slice _ (j7 os all i).length _) (.sl ((j7 os all i).map _))
   rw [hwin i hi']
   have e : (j7 os all i).map (fun b => [D.v (.bool b)]) = List.take (elt os (i : Int)).secs.l.length (List.drop (cF os i) (bS oe all)) := by simp [j7, bS, List.map_take, List.map_drop]
   rw [e]; exact h2
theorem sS (x : bj) (hf : mL x.objs.l) : Con Tryz.prog 27 [x.r.val, x.objs.val, x.keep.val, x.choices.val] [x.ok] []
   fun r ps hp => ps = [] ∧ ∃ (s : Sl (Sl Bool)) (ad : Option Addr) (cap : Nat), r = s.val ∧ eX s = jr (lkF x ad cap x.objs.l.length) ∧ hp = [qk (fK s)] := by
 have hs6 : ∀ o ∈ x.objs.l, o.secs.l.length ≤ 6 := fun o ho => (hf.of o ho).1
 have hcn := oI hs6 _ (Nat.le_refl _)
 have hn4 := hf.n
 refine Con.enter Tryz.func27 rfl (by simp [Tryz.ntmps27]) ?_
 show awp _ _ _ _ ⟨[(0, true, _), (1, true, _), (2, true, _), (3, true, _)], _, _⟩
 refine aSR ?_
 refine an (q := true) rfl (cx rfl rfl rfl (fun b0_0 => ?_))
 refine aHN ?_
 refine aA rfl (aNn (aSR (aU rfl (ah 0 tk79 rfl rfl rfl) (aM rfl (aM rfl (aM rfl ?_))))))
 refine an (q := true) rfl (bH [0] [] (by kernel_rfl) rfl rfl rfl rfl (sf x hn4 hs6) ?_)
 rintro _ _ _ ⟨rfl, lb, af, cf, rfl, rfl⟩
 refine aST ?_
 refine aA rfl (aNn (aSR (aM rfl (aU rfl (aR rfl) ?_))))
 refine aU rfl (qFA (off := 11) rfl) ?_
 refine aU rfl (aN (o := 11) tk3 rfl (.of (aF 0 rfl)) rfl) ?_
 refine an (q := true) rfl (iC (m := cF x.objs.l x.objs.l.length) (zs := [.bool false]) el68 (by kernel_rfl) rfl (by decide) (eJ rfl (rfl)) (eJ rfl (rfl)) (by omega) rfl (fun v2_4 => ?_))
 refine aHN ?_
 refine aA rfl (aNs (aH ?_))
 refine cP [] [] [] (by kernel_rfl) ?_
 show aC _ _ _ _ _ _ _ 11 #[false, false, false, false, false, false, false, false, false, false, false] _
 refine wx (X := Option Addr × Nat) (fun q => ⟨[(1, true, x.objs.val), (9, true, .pointer (some ⟨lb, 0, none⟩)), (10, true, .slice v2_4 (cF x.objs.l x.objs.l.length) (cF x.objs.l x.objs.l.length)), (34, true, .slice q.1 (ea (lkF x af cf x.objs.l.length)).length q.2), (35, true, .int .i64 (ea (lkF x af cf x.objs.l.length)).length), (36, true, .int .i64 0)], [At lb 0 ((lkF x af cf x.objs.l.length)).row, ((lkF x af cf x.objs.l.length)).ok], [bg (.slice v2_4 (cF x.objs.l x.objs.l.length) (cF x.objs.l x.objs.l.length)) 4 1 (List.replicate (cF x.objs.l x.objs.l.length) [.v (.bool false)]), bg (.slice q.1 (ea (lkF x af cf x.objs.l.length)).length q.2) 3 1 (bS encI (ea (lkF x af cf x.objs.l.length)))]⟩) ?_ ?_
 ·skip
  refine bt 0 rfl (by kernel_rfl) true rfl rfl (fun _ => aD rfl) ?_
  refine bt 1 rfl (by kernel_rfl) true rfl rfl (fun _ => aR rfl) ?_
  refine bt 2 rfl (by kernel_rfl) true rfl rfl (fun _ => qFA (off := 11) rfl) ?_
  refine bt 3 rfl (by kernel_rfl) true rfl rfl (fun _ => aN (o := 11) tk3 rfl (.of (aF 0 rfl)) rfl) ?_
  refine bt 4 rfl (by kernel_rfl) true rfl rfl (fun _ => aD rfl) ?_
  refine bt 6 rfl (by kernel_rfl) true rfl rfl (fun _ => aD rfl) ?_
  refine bt 10 rfl (by kernel_rfl) true rfl rfl (fun _ => aD rfl) ?_
  refine cq 5 [] (by kernel_rfl) (bL ?_ bX)
  refine cR 5 rfl rfl (Eff.x ?_)
  refine id (bH [2, 1] [] (by kernel_rfl) rfl rfl rfl rfl (ue (lkF x af cf x.objs.l.length) (pU hn4 hs6) hf lb) ?_)
  rintro _ _ _ ⟨rfl, aa, ca, rfl, rfl⟩
  refine dD (by (try simp only [nO, nK, nL]); rfl) (by (try simp only [nM, nN]); rfl) (by (try simp only [bK, nQ, nR, dp, place, Nat.reduceBEq, if_true, if_false, reduceIte, Nat.reduceAdd, nW]); rfl) ?_
  refine cq 7 [] (by kernel_rfl) (bL ?_ bX)
  refine cR 7 rfl rfl (Eff.x ?_)
  refine id (bH [2, 1] [] (by kernel_rfl) rfl rfl rfl rfl (qy (lkF x af cf x.objs.l.length) (pU hn4 hs6) hf lb) ?_)
  rintro _ _ _ ⟨rfl, ar, cr, rfl, rfl⟩
  refine dD (by (try simp only [nO, nK, nL]); rfl) (by (try simp only [nM, nN]); rfl) (by (try simp only [bK, nQ, nR, dp, place, Nat.reduceBEq, if_true, if_false, reduceIte, Nat.reduceAdd, nW]); rfl) ?_
  refine cq 8 [] (by kernel_rfl) (bL ?_ bX)
  refine cR 8 rfl rfl (Eff.x ?_)
  refine id (bH [3, 4] [] (by kernel_rfl) rfl rfl rfl rfl (xf (cF x.objs.l x.objs.l.length) (by omega) ⟨aa, ca, eo (lkF x af cf x.objs.l.length) x.objs.l.length⟩ (by have := kR (x := (lkF x af cf x.objs.l.length)) hf _ (Nat.le_refl _); dsimp only at this ⊢; omega) iZ ⟨ar, cr, cY (lkF x af cf x.objs.l.length) x.objs.l.length⟩ (by have := iS (x := (lkF x af cf x.objs.l.length)) hf _ (Nat.le_refl _); dsimp only at this ⊢; omega)) ?_)
  rintro r34 _ _ ⟨rfl, ad, c, rfl, rfl⟩
  refine dD (by (try simp only [nO, nK, nL]); rfl) (by (try simp only [nM, nN]); rfl) (by (try simp only [bK, nQ, nR, dp, place, Nat.reduceBEq, if_true, if_false, reduceIte, Nat.reduceAdd, nW]); rfl) ?_
  refine bt 9 rfl (by kernel_rfl) true rfl rfl (fun _ => aZ Tryz.underlying90 rfl) ?_
  refine eN (by kernel_rfl) ?_
  exact ⟨rfl, [1, 9, 10, 34, 35, 36], [2, 1], [1, 2], (ad, c), rfl, rfl⟩
 ·skip
  rintro ⟨ad, c⟩
  refine az (aI (fN 1 rfl ?_))
  refine aT [1, 9, 10, 34, 35, 36] [2, 1, 0] [0] (fun (k : Nat) s => k ≤ (ea (lkF x af cf x.objs.l.length)).length ∧ s = ⟨[(1, true, x.objs.val), (9, true, .pointer (some ⟨lb, 0, none⟩)), (10, true, .slice v2_4 (cF x.objs.l x.objs.l.length) (cF x.objs.l x.objs.l.length)), (34, true, .slice ad (ea (lkF x af cf x.objs.l.length)).length c), (35, true, .int .i64 (ea (lkF x af cf x.objs.l.length)).length), (36, true, .int .i64 k)], [Sh (.slice ad (ea (lkF x af cf x.objs.l.length)).length c) (.sl (bS encI (ea (lkF x af cf x.objs.l.length)))), At lb 0 ((lkF x af cf x.objs.l.length)).row, ((lkF x af cf x.objs.l.length)).ok], [bg (.slice v2_4 (cF x.objs.l x.objs.l.length) (cF x.objs.l x.objs.l.length)) 4 1 (bS oe (gh (cF x.objs.l x.objs.l.length) ((ea (lkF x af cf x.objs.l.length)).take k)))]⟩) (fun k => (ea (lkF x af cf x.objs.l.length)).length - k) rfl (⟨0, Nat.zero_le _, by rw [show bS oe (gh (cF x.objs.l x.objs.l.length) ((ea (lkF x af cf x.objs.l.length)).take 0)) = List.replicate (cF x.objs.l x.objs.l.length) [.v (.bool false)] by simp [bS, gh]]; rfl⟩) ?_
  rintro k s ⟨hk, rfl⟩
  have hml := lv (cF x.objs.l x.objs.l.length) ((ea (lkF x af cf x.objs.l.length)).take k)
  have hlN : (ea (lkF x af cf x.objs.l.length)).length ≤ (cF x.objs.l x.objs.l.length) := tf _ _
  refine aSR (aU rfl (bw rfl rfl) (aNs ?_))
  refine al _ rfl (fun h1 => ?_) (fun h1 => ?_)
  ·skip
   have hk' : k < (ea (lkF x af cf x.objs.l.length)).length := by simp at h1; omega
   obtain ⟨v, hv⟩ : ∃ v, (ea (lkF x af cf x.objs.l.length))[k]? = some v := ⟨_, List.getElem?_eq_getElem hk'⟩
   have hvn : 0 ≤ v ∧ v < ((cF x.objs.l x.objs.l.length) : Int) := pR (List.mem_of_getElem? hv)
   have hst := x1 (cF x.objs.l x.objs.l.length) _ hv
   refine aq (az (aH (aI (aSR ?_))))
   refine cJ true rfl rfl (fun _ => av Tryz.underlying90 tk3 rfl ((.of (aF 0 rfl))) rfl (fR hv) rfl rfl) (fun h => absurd h (by decide)) (fun ⟨b5_0, o5_0⟩ => ?_)
   refine aU rfl (aP (o := 0) tk3 rfl (aF 0 rfl) rfl rfl) (aA rfl (aNn ?_))
   refine eH 0 rfl (fun h0 => by have := congrArg List.length h0; rw [cT, hml, List.length_nil] at this; omega) (fun B cp hvb => ?_)
   obtain ⟨rfl, rfl⟩ : v2_4 = some ⟨B, 0, none⟩ ∧ (cF x.objs.l x.objs.l.length) = cp := by simp at hvb; exact ⟨hvb.1, hvb.2.2⟩
   obtain ⟨o, ho⟩ : ∃ o, (gh (cF x.objs.l x.objs.l.length) ((ea (lkF x af cf x.objs.l.length)).take k))[v.toNat]? = some o := ⟨_, List.getElem?_eq_getElem (by rw [hml]; omega)⟩
   refine aj (aM rfl (aM rfl ?_))
   refine aU rfl (fU v.toNat el68 rfl rfl (by omega) (by omega)) ?_
   refine an (q := false) rfl (eK 0 v.toNat 0 tk4 rfl rfl rfl (yi ho) rfl (.v rfl .nil) rfl (by decide) ?_)
   refine cn (bB (az (aj ?_)))
   refine aU rfl (bd rfl rfl (by omega)) ?_
   refine aM rfl (aNn ?_)
   refine ⟨[1, 9, 10, 34, 35, 36], [2, 1, 0], [0], rfl, ?_⟩
   refine ⟨k + 1, ⟨by omega, ?_⟩, by omega⟩
   rw [hst, xw]
   rfl
  ·skip
   have hkl : k = (ea (lkF x af cf x.objs.l.length)).length := by simp at h1; omega
   subst hkl
   rw [List.take_length]
   refine aX (aY (aY (bf (az (aSR (aM rfl (aU rfl (aZ Tryz.underlying22 rfl) ?_)))))))
   refine an (q := true) rfl (iC (m := x.objs.l.length) (zs := [.slice none 0 0]) el27 (by kernel_rfl) rfl (by decide) (eJ rfl (rfl)) (eJ rfl (rfl)) (by omega) rfl (fun v8_2 => ?_))
   refine aHN ?_
   refine aA rfl (aNs (aSR (aM rfl (aU rfl (aZ Tryz.underlying22 rfl) (aM rfl (aNn (aI ?_)))))))
   obtain ⟨all, hall⟩ : ∃ all, gh (cF x.objs.l x.objs.l.length) (ea (lkF x af cf x.objs.l.length)) = all := ⟨_, rfl⟩
   rw [List.take_length] at hml
   rw [hall] at hml ⊢
   refine aT [9, 10, 13, 47, 48, 49] [1, 0] [0, 1] (fun (k : Nat) s => k ≤ x.objs.l.length ∧ s = ⟨[(9, true, .pointer (some ⟨lb, 0, none⟩)), (10, true, .slice v2_4 (cF x.objs.l x.objs.l.length) (cF x.objs.l x.objs.l.length)), (13, true, .slice v8_2 x.objs.l.length x.objs.l.length), (47, true, x.objs.val), (48, true, .int .i64 x.objs.l.length), (49, true, .int .i64 k)], [At lb 0 ((lkF x af cf x.objs.l.length)).row, ((lkF x af cf x.objs.l.length)).ok], [bg (.slice v2_4 (cF x.objs.l x.objs.l.length) (cF x.objs.l x.objs.l.length)) 4 1 (bS oe all), bg (.slice v8_2 x.objs.l.length x.objs.l.length) 68 1 (((List.range k).map fun i => [D.v (py x.objs.l v2_4 i)]) ++ List.replicate (x.objs.l.length - k) [.v (.slice none 0 0)])]⟩) (fun k => x.objs.l.length - k) rfl (⟨0, Nat.zero_le _, rfl⟩) ?_
   rintro k s ⟨hk2, rfl⟩
   refine aSR (aU rfl (bw rfl rfl) (aNs ?_))
   refine al _ rfl (fun h2 => ?_) (fun h2 => ?_)
   ·skip
    have hk' : k < x.objs.l.length := by simp at h2; omega
    have ho := bM hk'
    obtain ⟨hwn, hwb⟩ := lK hml hk'
    have hfk : (dH x.objs.l x.objs.l.length)[k]? = some (cF x.objs.l k : Int) := by simp [dH, hk']
    refine aq (az (aH (aI (aSR (aM rfl ?_)))))
    refine cJ true rfl rfl (fun _ => av Tryz.underlying22 tk61 rfl ((bj.f_objs (x := (lkF x af cf x.objs.l.length)) (.of (aF 1 rfl)))) rfl (aQ ho) rfl rfl) (fun h => absurd h (by decide)) (fun ⟨b11_1, o11_1⟩ => ?_)
    refine aU rfl (aP (o := 0) tk61 rfl (aF 0 rfl) rfl rfl) ?_
    refine an (q := true) rfl (bc (zs := [.string .empty, .slice none 0 0, .slice none 0 0, .slice none 0 0, .slice none 0 0, .slice none 0 0, .slice none 0 0, .slice none 0 0, .slice none 0 0, .slice none 0 0, .slice none 0 0]) (by kernel_rfl) rfl (fun b11_3 => ?_))
    refine aHN ?_
    refine aA rfl ?_
    refine an rfl (aV 2 tk61 rfl rfl rfl rfl ?_)
    refine aHK ?_
    refine aNn ?_
    refine eH 1 rfl (fun h0 => by have := congrArg List.length h0; simp at this; omega) (fun B cp hvb => ?_)
    obtain ⟨rfl, rfl⟩ : v8_2 = some ⟨B, 0, none⟩ ∧ x.objs.l.length = cp := by simp at hvb; exact ⟨hvb.1, hvb.2.2⟩
    have hrow : (((List.range k).map fun i => [D.v (py x.objs.l v2_4 i)]) ++ List.replicate (x.objs.l.length - k) [D.v (.slice none 0 0)])[k]? = some [.v (.slice none 0 0)] := by rw [List.getElem?_append_right (by simp), List.length_map, List.length_range, Nat.sub_self, List.getElem?_replicate, if_pos (by omega)]
    refine cP [34] [34] [b11_3] (by kernel_rfl) ?_
    show aC _ _ _ _ _ _ _ 35 #[false, false, false, false, false, false, false, false, false, false, false, false, false, false, false, false, false, false, false, false, false, false, false, false, false, false, false, false, false, false, false, false, false, false, false] _
    refine bt 0 rfl (by kernel_rfl) true rfl rfl (fun _ => aD rfl) ?_
    refine bt 1 rfl (by kernel_rfl) true rfl rfl (fun _ => aD rfl) ?_
    refine bt 2 rfl (by kernel_rfl) true rfl rfl (fun _ => aD rfl) ?_
    refine bt 3 rfl (by kernel_rfl) true rfl rfl (fun _ => aD rfl) ?_
    refine bt 4 rfl (by kernel_rfl) true rfl rfl (fun _ => aR rfl) ?_
    refine bt 5 rfl (by kernel_rfl) true rfl rfl (fun _ => qFA (off := 10) rfl) ?_
    refine bt 6 rfl (by kernel_rfl) true rfl rfl (fun _ => aN (o := 10) tk90 rfl (.of (aF 1 rfl)) rfl) ?_
    refine bt 7 rfl (by kernel_rfl) true rfl rfl (fun _ => aD rfl) ?_
    refine jo 8 rfl (by kernel_rfl) rfl rfl (cD Tryz.underlying90 tk3 rfl ((bj.f_first (x := (lkF x af cf x.objs.l.length)) (.of (aF 2 rfl)))) rfl (aQ hfk) rfl rfl) (fun ⟨b12_8, o12_8⟩ => ?_)
    refine bt 9 rfl (by kernel_rfl) true rfl rfl (fun _ => aN (o := 0) tk3 rfl (.of (aF 0 rfl)) rfl) ?_
    refine bt 10 rfl (by kernel_rfl) true rfl rfl (fun _ => aD rfl) ?_
    refine bt 11 rfl (by kernel_rfl) true rfl rfl (fun _ => aR rfl) ?_
    refine bt 12 rfl (by kernel_rfl) true rfl rfl (fun _ => qFA (off := 10) rfl) ?_
    refine bt 13 rfl (by kernel_rfl) true rfl rfl (fun _ => aN (o := 10) tk90 rfl (.of (aF 2 rfl)) rfl) ?_
    refine bt 14 rfl (by kernel_rfl) true rfl rfl (fun _ => aD rfl) ?_
    refine jo 15 rfl (by kernel_rfl) rfl rfl (cD Tryz.underlying90 tk3 rfl ((bj.f_first (x := (lkF x af cf x.objs.l.length)) (.of (aF 3 rfl)))) rfl (aQ hfk) rfl rfl) (fun ⟨b12_15, o12_15⟩ => ?_)
    refine bt 16 rfl (by kernel_rfl) true rfl rfl (fun _ => aN (o := 0) tk3 rfl (.of (aF 0 rfl)) rfl) ?_
    refine bt 17 rfl (by kernel_rfl) true rfl rfl (fun _ => qFA (off := 1) rfl) ?_
    refine db 18 2 rfl (by kernel_rfl) true rfl rfl (by simp) tk50 (fun _ => rfl) rfl rfl ?_
    refine bt 19 rfl (by kernel_rfl) true rfl rfl (fun _ => aZ Tryz.underlying50 rfl) ?_
    refine bt 20 rfl (by kernel_rfl) true rfl rfl (fun _ => bd rfl rfl (by omega)) ?_
    refine bt 21 rfl (by kernel_rfl) true rfl rfl (fun _ => aD rfl) ?_
    refine bt 22 rfl (by kernel_rfl) true rfl rfl (fun _ => aR rfl) ?_
    refine bt 23 rfl (by kernel_rfl) true rfl rfl (fun _ => qFA (off := 10) rfl) ?_
    refine bt 24 rfl (by kernel_rfl) true rfl rfl (fun _ => aN (o := 10) tk90 rfl (.of (aF 3 rfl)) rfl) ?_
    refine bt 25 rfl (by kernel_rfl) true rfl rfl (fun _ => aD rfl) ?_
    refine jo 26 rfl (by kernel_rfl) rfl rfl (cD Tryz.underlying90 tk3 rfl ((bj.f_first (x := (lkF x af cf x.objs.l.length)) (.of (aF 4 rfl)))) rfl (aQ hfk) rfl rfl) (fun ⟨b12_26, o12_26⟩ => ?_)
    refine bt 27 rfl (by kernel_rfl) true rfl rfl (fun _ => aN (o := 0) tk3 rfl (.of (aF 0 rfl)) rfl) ?_
    refine bt 28 rfl (by kernel_rfl) true rfl rfl (fun _ => qFA (off := 1) rfl) ?_
    refine db 29 2 rfl (by kernel_rfl) true rfl rfl (by simp) tk50 (fun _ => rfl) rfl rfl ?_
    refine bt 30 rfl (by kernel_rfl) true rfl rfl (fun _ => aZ Tryz.underlying50 rfl) ?_
    refine bt 31 rfl (by kernel_rfl) true rfl rfl (fun _ => bd rfl rfl (by omega)) ?_
    refine bt 32 rfl (by kernel_rfl) true rfl rfl (fun _ => xK (cF x.objs.l k) (elt x.objs.l (k : Int)).secs.l.length el68 rfl rfl rfl rfl rfl rfl rfl (by rw [← hml]; exact hwb)) ?_
    refine bt 33 rfl (by kernel_rfl) true rfl rfl (fun _ => fU k el27 rfl rfl rfl hk') ?_
    refine cq 34 [] (by kernel_rfl) (bL ?_ bX)
    refine cR 34 rfl rfl (Eff.wild (q := false) ?_)
    refine eK 1 k 0 tk68 rfl rfl rfl hrow rfl (.v rfl .nil) rfl (by decide) ?_
    refine dD (by (try simp only [nO, nK, nL]); rfl) (by (try simp only [nM, nN]); rfl) (by (try simp only [bK, nQ, nR, dp, place, Nat.reduceBEq, if_true, if_false, reduceIte, Nat.reduceAdd, nW]); rfl) ?_
    refine eN (by kernel_rfl) ?_
    refine bB (az (aj ?_))
    refine aU rfl (bd rfl rfl (by omega)) ?_
    refine aM rfl (aNn ?_)
    refine ⟨[9, 10, 13, 47, 48, 49], [1, 0], [0, 1], rfl, ?_⟩
    refine ⟨k + 1, ⟨by omega, ?_⟩, by omega⟩
    have e2 := zj ((List.range k).map fun i => [D.v (py x.objs.l v2_4 i)]) [D.v (.slice none 0 0)] [D.v (py x.objs.l v2_4 k)] x.objs.l.length (by simpa using hk')
    rw [List.length_map, List.length_range] at e2
    rw [List.range_succ, List.map_append, show List.map (fun i => [D.v (py x.objs.l v2_4 i)]) [k] = [[D.v (py x.objs.l v2_4 k)]] from rfl, ← e2]
    rfl
   ·skip
    have hwe : k = x.objs.l.length := by simp at h2; omega
    subst hwe
    rw [Nat.sub_self, List.replicate_zero, List.append_nil]
    refine aX (aY (aY (bf (az (aH (kV 0 1 rfl rfl rfl (fe 0 (qk (fK ⟨v8_2, x.objs.l.length, (List.range x.objs.l.length).map (zT x.objs.l all v2_4)⟩)) rfl (fun w S F hh => aak hml hh) ?_)))))))
    refine aj (aM rfl (aA rfl (aNn (aJ ?_))))
    refine br [] [0] rfl Tryz.results27 rfl ?_ (.inr rfl)
    refine ⟨rfl, ⟨v8_2, x.objs.l.length, (List.range x.objs.l.length).map (zT x.objs.l all v2_4)⟩, af, cf, ?_, ?_, rfl⟩
    · simp [Sl.val]
    · rw [show jr (lkF x af cf x.objs.l.length) = (List.range x.objs.l.length).map (j7 x.objs.l all) by rw [← hall]; rfl]; simp [eX, Function.comp_def, zT]
end Go.Proofs.YtgmiihmahaahiaaGreatDoor

namespace Go.Proofs.YtgmiihmahaahiaaGreatDoor
open Go.RowKit Go.Lp Go.Sy
open Go.Proofs.Tryz
attribute [local irreducible] aL aB awp aC fwp
def jV (x : bj) (o k : Int) : Bool := decide ((bP x.choices.l o k).kind = 2) && decide ((bP x.choices.l o k).obj = o) && decide ((bP x.choices.l o k).sym = k)
def hP (x : bj) (a b : Int) (i k : Nat) (y : bE) : Bool := (jV x i k && gw x i k a b) && (iF x y || !gQ x.objs.l y.name)
def ow (x : bj) (a b : Int) (i : Nat) (l : List bE) (n : Nat) : Bool := (List.range n).any fun k => hP x a b i k (elt l (k : Int))
def l9 (x : bj) (a b : Int) (i : Nat) (l : List kh) : Bool := l.any fun z => gw x i z.sym a b
def rK (x : bj) (a b : Int) (n : Nat) : Bool := (List.range n).any fun i => ow x a b i (elt x.objs.l (i : Int)).syms.l (elt x.objs.l (i : Int)).syms.l.length || l9 x a b i (elt x.objs.l (i : Int)).inits.l
def od (x : bj) (a b : Int) : Bool := cM x.objs.l x.keep.l a b && ((elt (elt x.objs.l a).secs.l b).keep || rK x a b x.objs.l.length)
theorem qZ {x : bj} {a b : Int} {i n : Nat} (h : i < n) (hh : (ow x a b i (elt x.objs.l (i : Int)).syms.l (elt x.objs.l (i : Int)).syms.l.length || l9 x a b i (elt x.objs.l (i : Int)).inits.l) = true) : rK x a b n = true := List.any_eq_true.2 ⟨i, List.mem_range.2 h, hh⟩
def sG (x : bj) (a b o s : Int) (l : List ju) : Bool := l.any fun r => decide (r.sec = b) && gw x a r.sym o s
def wI (x : bj) (a b o s : Int) (l : List dx) : Bool := l.any fun c => decide (c.sec = b) && gw x a c.code o s
def nw (x : bj) (a b o s : Int) : Bool := cM x.objs.l x.keep.l a b && (sG x a b o s (elt x.objs.l a).rels.l || wI x a b o s (elt x.objs.l a).converts.l)
def oX (a b : List (List Bool)) : Bool := decide (a = b)
theorem zX (a b : Sl (Sl Bool)) : Con Tryz.prog 51 [a.val, b.val] [fK a, fK b] [] fun r _ _ => r = .bool (oX (eX a) (eX b)) := by
 refine Con.enter Tryz.func51 rfl (by simp [Tryz.ntmps51]) ?_
 show awp _ _ _ _ ⟨[(0, true, _), (1, true, _)], _, _⟩
 refine bA (.left (.of (aF 0 rfl))) (fun hlen => ?_)
 refine aSR (aA rfl (aNs (aSR (aM rfl (aU rfl (aZ Tryz.underlying27 rfl) (aM rfl (aU rfl (aZ Tryz.underlying27 rfl) (aU rfl (dB rfl rfl) (aNn ?_)))))))))
 refine al _ rfl (fun h1 => ?_) (fun h1 => ?_)
 ·skip
  have hne : a.l.length ≠ b.l.length := by simp at h1; omega
  refine aSR (aA rfl (aNn (aJ (aO ?_))))
  refine br [] [] rfl Tryz.results51 rfl ?_ (.inr rfl)
  rw [show oX (eX a) (eX b) = false from decide_eq_false fun h => hne (by have := congrArg List.length h; simpa using this)]
 ·skip
  have hle : a.l.length = b.l.length := by simp at h1; omega
  refine aq (az (aH (aSR (aA rfl (aNn ?_)))))
  refine aI (aT [0, 1, 4, 5] [1, 0] [] (fun (k : Nat) st => (k ≤ a.l.length ∧ (eX a).take k = (eX b).take k) ∧ st = ⟨[(0, true, a.val), (1, true, b.val), (4, true, .bool false), (5, true, .int .i64 k)], [fK a, fK b], []⟩) (fun k => a.l.length - k) rfl (⟨0, ⟨Nat.zero_le _, rfl⟩, rfl⟩) ?_)
  rintro k st ⟨⟨hk, heq⟩, rfl⟩
  refine aH (aSR (aM rfl (aM rfl (aU rfl (aZ Tryz.underlying27 rfl) (aU rfl (bw rfl rfl) (aNn ?_))))))
  refine al _ rfl (fun h2 => ?_) (fun h2 => ?_)
  ·skip
   have hk' : k < a.l.length := by simp at h2; omega
   obtain ⟨ra, hra⟩ : ∃ r, a.l[k]? = some r := ⟨_, List.getElem?_eq_getElem hk'⟩
   obtain ⟨rb, hrb⟩ : ∃ r, b.l[k]? = some r := ⟨_, List.getElem?_eq_getElem (by omega)⟩
   refine bA (Ent.all (f := ShF fun b : Bool => [.v (.bool b)]) (Ent.right (.of (aF 0 rfl))) hra) (fun hlen2 => ?_)
   have hsame : oX (eX a) (eX b) = true → ra.l = rb.l := fun h => by
     have h0 := of_decide_eq_true h
     have h1 : (eX a)[k]? = some ra.l := by simp [eX, hra]
     have h2 : (eX b)[k]? = some rb.l := by simp [eX, hrb]
     rw [h0, h2] at h1; exact (Option.some.inj h1).symm
   refine aq (az (aH (aI (aH (aH ?_)))))
   refine bp [] (by kernel_rfl) ?_
   show aB _ _ _ _ _ 11 #[false, false, false, false, false, false, false, false, false, false, false] _
   refine bV 0 rfl rfl (aD rfl) ?_
   refine bV 1 rfl rfl (aD rfl) ?_
   refine dC 2 rfl (by kernel_rfl) true rfl rfl (fun _ => av Tryz.underlying27 tk68 rfl ((.left (.of (aF 0 rfl)))) rfl (aQ hra) rfl rfl) (fun h => absurd h (by decide)) (fun ⟨b6_2, o6_2⟩ => ?_)
   refine bV 3 rfl rfl (aP (o := 0) tk68 rfl (aF 0 rfl) rfl rfl) ?_
   refine bV 4 rfl rfl (aZ Tryz.underlying68 rfl) ?_
   refine bV 5 rfl rfl (aD rfl) ?_
   refine bV 6 rfl rfl (aD rfl) ?_
   refine dC 7 rfl (by kernel_rfl) true rfl rfl (fun _ => av Tryz.underlying27 tk68 rfl ((.left (.of (aF 2 rfl)))) rfl (aQ hrb) rfl rfl) (fun h => absurd h (by decide)) (fun ⟨b6_7, o6_7⟩ => ?_)
   refine bV 8 rfl rfl (aP (o := 0) tk68 rfl (aF 0 rfl) rfl rfl) ?_
   refine bV 9 rfl rfl (aZ Tryz.underlying68 rfl) ?_
   refine bV 10 rfl rfl (dB rfl rfl) ?_
   refine bO (by kernel_rfl) ?_
   refine az ?_
   refine al _ rfl (fun h3 => ?_) (fun h3 => ?_)
   ·skip
    have hne : ra.l.length ≠ rb.l.length := by simp at h3; omega
    refine aSR (aA rfl (aNn (aJ (aO (bu (aO (aO (bu (aO ?_)))))))))
    refine br [] [] rfl Tryz.results51 rfl ?_ (.inr rfl)
    rw [show oX (eX a) (eX b) = false from Bool.eq_false_iff.2 fun h => hne (by rw [hsame h])]
   ·skip
    have hle2 : ra.l.length = rb.l.length := by simp at h3; omega
    refine aq (az (aSR (aA rfl (aNn (aI ?_)))))
    refine aT [0, 1, 4, 5, 6] [1, 0] [] (fun (j : Nat) st => (j ≤ ra.l.length ∧ ra.l.take j = rb.l.take j) ∧ st = ⟨[(0, true, a.val), (1, true, b.val), (4, true, .bool false), (5, true, .int .i64 k), (6, true, .int .i64 j)], [fK a, fK b], []⟩) (fun j => ra.l.length - j) rfl (⟨0, ⟨Nat.zero_le _, rfl⟩, rfl⟩) ?_
    rintro j st ⟨⟨hj, hej⟩, rfl⟩
    refine aH (aSR (aM rfl (aM rfl (aM rfl ?_))))
    refine cJ true rfl rfl (fun _ => av Tryz.underlying27 tk68 rfl ((.left (.of (aF 0 rfl)))) rfl (aQ hra) rfl rfl) (fun h => absurd h (by decide)) (fun ⟨b9_3, o9_3⟩ => ?_)
    refine aU rfl (aP (o := 0) tk68 rfl (aF 0 rfl) rfl rfl) (aU rfl (aZ Tryz.underlying68 rfl) (aU rfl (bw rfl rfl) (aNn ?_)))
    refine al _ rfl (fun h4 => ?_) (fun h4 => ?_)
    ·skip
     have hj' : j < ra.l.length := by simp at h4; omega
     obtain ⟨va, hva⟩ : ∃ v, ra.l[j]? = some v := ⟨_, List.getElem?_eq_getElem hj'⟩
     obtain ⟨vb, hvb⟩ : ∃ v, rb.l[j]? = some v := ⟨_, List.getElem?_eq_getElem (by omega)⟩
     refine aq (az (aH (aI (aH ?_))))
     refine bp [] (by kernel_rfl) ?_
     show aB _ _ _ _ _ 15 #[false, false, false, false, false, false, false, false, false, false, false, false, false, false, false] _
     refine bV 0 rfl rfl (aD rfl) ?_
     refine bV 1 rfl rfl (aD rfl) ?_
     refine dC 2 rfl (by kernel_rfl) true rfl rfl (fun _ => av Tryz.underlying27 tk68 rfl ((.left (.of (aF 1 rfl)))) rfl (aQ hra) rfl rfl) (fun h => absurd h (by decide)) (fun ⟨b11_2, o11_2⟩ => ?_)
     refine bV 3 rfl rfl (aP (o := 0) tk68 rfl (aF 0 rfl) rfl rfl) ?_
     refine bV 4 rfl rfl (aD rfl) ?_
     refine dC 5 rfl (by kernel_rfl) true rfl rfl (fun _ => av Tryz.underlying68 tk4 rfl ((Ent.all (f := ShF fun b : Bool => [.v (.bool b)]) (Ent.right (.of (aF 2 rfl))) hra)) rfl (aQ hva) rfl rfl) (fun h => absurd h (by decide)) (fun ⟨b11_5, o11_5⟩ => ?_)
     refine bV 6 rfl rfl (aP (o := 0) tk4 rfl (aF 0 rfl) rfl rfl) ?_
     refine bV 7 rfl rfl (aD rfl) ?_
     refine bV 8 rfl rfl (aD rfl) ?_
     refine dC 9 rfl (by kernel_rfl) true rfl rfl (fun _ => av Tryz.underlying27 tk68 rfl ((.left (.of (aF 4 rfl)))) rfl (aQ hrb) rfl rfl) (fun h => absurd h (by decide)) (fun ⟨b11_9, o11_9⟩ => ?_)
     refine bV 10 rfl rfl (aP (o := 0) tk68 rfl (aF 0 rfl) rfl rfl) ?_
     refine bV 11 rfl rfl (aD rfl) ?_
     refine dC 12 rfl (by kernel_rfl) true rfl rfl (fun _ => av Tryz.underlying68 tk4 rfl ((Ent.all (f := ShF fun b : Bool => [.v (.bool b)]) (Ent.right (.of (aF 5 rfl))) hrb)) rfl (aQ hvb) rfl rfl) (fun h => absurd h (by decide)) (fun ⟨b11_12, o11_12⟩ => ?_)
     refine bV 13 rfl rfl (aP (o := 0) tk4 rfl (aF 0 rfl) rfl rfl) ?_
     refine bV 14 rfl rfl (ab6 (by kernel_rfl) rfl rfl) ?_
     refine bO (by kernel_rfl) ?_
     refine az ?_
     refine al _ rfl (fun h5 => ?_) (fun h5 => ?_)
     ·skip
      have hvn : va ≠ vb := by simpa using h5
      refine aSR (aA rfl (aNn (aJ (bu (aO (aO (bu (bu (aO (aO (bu (aO ?_))))))))))))
      refine br [] [] rfl Tryz.results51 rfl ?_ (.inr rfl)
      rw [show oX (eX a) (eX b) = false from Bool.eq_false_iff.2 fun h => hvn (by have h6 := hva; rw [hsame h, hvb] at h6; exact (Option.some.inj h6).symm)]
     ·skip
      have hve : va = vb := by simpa using h5
      refine aq (bB (az (aj (aM rfl ?_))))
      refine aU rfl (bd rfl rfl (by omega)) ?_
      refine aA rfl (aNn ?_)
      refine ⟨[0, 1, 4, 5, 6], [1, 0], [], rfl, ?_⟩
      refine ⟨j + 1, ⟨⟨by omega, ?_⟩, rfl⟩, by omega⟩
      rw [List.take_add_one, List.take_add_one, hva, hvb, hej, hve]
    ·skip
     have hjl : j = ra.l.length := by simp at h4; omega
     have hre : ra.l = rb.l := by rw [List.take_of_length_le (by omega), List.take_of_length_le (by omega)] at hej; exact hej
     refine aX (aY (aY (bf (bB (az (aj (aM rfl ?_)))))))
     refine aU rfl (bd rfl rfl (by omega)) ?_
     refine aA rfl (aNn ?_)
     refine ⟨[0, 1, 4, 5], [1, 0], [], rfl, ?_⟩
     refine ⟨k + 1, ⟨⟨by omega, ?_⟩, rfl⟩, by omega⟩
     rw [List.take_add_one, List.take_add_one, heq, show (eX a)[k]? = some ra.l by simp [eX, hra], show (eX b)[k]? = some rb.l by simp [eX, hrb], hre]
  ·skip
   refine aX (aY (aY (bf (az (aSR (aA rfl (aNn (aJ ?_))))))))
   refine br [] [] rfl Tryz.results51 rfl ?_ (.inr rfl)
   rw [show oX (eX a) (eX b) = true from decide_eq_true (by
     have hkl : k = a.l.length := by simp at h2; omega
     rw [List.take_of_length_le (by simp [eX]; omega), List.take_of_length_le (by simp [eX]; omega)] at heq; exact heq)]
end Go.Proofs.YtgmiihmahaahiaaGreatDoor

namespace Go.Proofs.YtgmiihmahaahiaaGreatDoor
open Go.RowKit Go.Lp Go.Sy
open Go.Proofs.Tryz
attribute [local irreducible] aL aB awp aC fwp
def pD (o : ax) : Bool := decide (o.secs.l.length ≤ 6 ∧ o.syms.l.length ≤ 14 ∧ o.rels.l.length ≤ 14 ∧ o.inits.l.length ≤ 6 ∧ o.converts.l.length ≤ 6)
def tY (x : bj) : Bool := decide (x.objs.l.length ≤ 4 ∧ x.keep.l.length ≤ 6 ∧ x.choices.l.length ≤ 6) && (x.objs.l.all pD && (x.keep.l.all (fun t => decide (t.l.length ≤ 10)) && x.choices.l.all (fun t => decide (t.l.length ≤ 20))))
theorem abw {x : bj} (h : tY x = true) : mL x.objs.l := by
 unfold tY at h
 simp only [Bool.and_eq_true, decide_eq_true_eq, List.all_eq_true] at h
 exact ⟨h.1.1, fun o ho => by have := h.2.1 o ho; unfold pD at this; simpa using this⟩
theorem yL (x : bj) : Con Tryz.prog 25 [x.objs.val, x.keep.val, x.choices.val] [x.ok] [] fun r _ _ => r = .bool (tY x) := by
 refine Con.enter Tryz.func25 rfl (by simp [Tryz.ntmps25]) ?_
 show awp _ _ _ _ ⟨[(0, true, _), (1, true, _), (2, true, _)], _, _⟩
 refine aSR (aA rfl (aNs (aSR (aM rfl (aU rfl (aZ Tryz.underlying22 rfl) (aU rfl (cN rfl rfl) (aM rfl (aG rfl rfl (fun hc => aD rfl) (aG rfl rfl (fun hc => aZ Tryz.underlying27 (ae rfl hc)) (aG rfl rfl (fun hc => cN (ae rfl hc) rfl) (aU rfl (bY rfl rfl (fun h => gf rfl h)) ?_)))))))))))
 refine aM rfl (aG rfl rfl (fun hc => aD rfl) (aG rfl rfl (fun hc => aZ Tryz.underlying31 (ae rfl hc)) (aG rfl rfl (fun hc => cN (ae rfl hc) rfl) (aU rfl (bY rfl rfl (fun h => gf rfl h)) (aNn ?_)))))
 refine al _ rfl (fun h1 => ?_) (fun h1 => ?_)
 ·skip
  have hno : ¬ (x.objs.l.length ≤ 4 ∧ x.keep.l.length ≤ 6 ∧ x.choices.l.length ≤ 6) := by simp at h1; omega
  refine aSR (aA rfl (aNn (aJ (aO ?_))))
  refine br [] [] rfl Tryz.results25 rfl ?_ (.inr rfl)
  rw [show tY x = false by unfold tY; rw [decide_eq_false hno]; rfl]
 ·skip
  have hyes : x.objs.l.length ≤ 4 ∧ x.keep.l.length ≤ 6 ∧ x.choices.l.length ≤ 6 := by simp at h1; omega
  have hF : tY x = (x.objs.l.all pD && (x.keep.l.all (fun t => decide (t.l.length ≤ 10)) && x.choices.l.all (fun t => decide (t.l.length ≤ 20)))) := by unfold tY; rw [decide_eq_true hyes]; rfl
  rw [hF]
  refine aq (az (aH (aSR (aA rfl (aNn ?_)))))
  refine aI (aT [0, 1, 2, 6, 7] [0] [] (fun (k : Nat) st => (k ≤ x.objs.l.length ∧ (x.objs.l.take k).all pD = true) ∧ st = ⟨[(0, true, x.objs.val), (1, true, x.keep.val), (2, true, x.choices.val), (6, true, .bool false), (7, true, .int .i64 k)], [x.ok], []⟩) (fun k => x.objs.l.length - k) rfl (⟨0, ⟨Nat.zero_le _, rfl⟩, rfl⟩) ?_)
  rintro k st ⟨⟨hk, hall⟩, rfl⟩
  refine aH (aSR (aM rfl (aM rfl (aU rfl (aZ Tryz.underlying22 rfl) (aU rfl (bw rfl rfl) (aNn ?_))))))
  refine al _ rfl (fun h2 => ?_) (fun h2 => ?_)
  ·skip
   have hk' : k < x.objs.l.length := by simp at h2; omega
   obtain ⟨o, ho⟩ : ∃ o, x.objs.l[k]? = some o := ⟨_, List.getElem?_eq_getElem hk'⟩
   refine aq (az (aH (aI (aSR (aM rfl (aM rfl ?_))))))
   refine cJ true rfl rfl (fun _ => av Tryz.underlying22 tk61 rfl ((bj.f_objs (.of (aF 0 rfl)))) rfl (aQ ho) rfl rfl) (fun h => absurd h (by decide)) (fun ⟨b6_2, o6_2⟩ => ?_)
   refine aU rfl (aP (o := 0) tk61 rfl (aF 0 rfl) rfl rfl) ?_
   refine an (q := true) rfl (bc (zs := [.string .empty, .slice none 0 0, .slice none 0 0, .slice none 0 0, .slice none 0 0, .slice none 0 0, .slice none 0 0, .slice none 0 0, .slice none 0 0, .slice none 0 0, .slice none 0 0]) (by kernel_rfl) rfl (fun b6_4 => ?_))
   refine aHN ?_
   refine an rfl (aV 0 tk61 rfl rfl rfl rfl ?_)
   refine aHK ?_
   refine aNn (aSR ?_)
   refine aU rfl (qFA (off := 1) rfl) ?_
   refine aU rfl (ah 0 tk50 rfl rfl rfl) (aU rfl (aZ Tryz.underlying50 rfl) (aU rfl (cN rfl rfl) (aM rfl ?_)))
   refine aG rfl rfl (fun hc => qFA (off := 2) rfl) ?_
   refine aG rfl rfl (fun hc => ah 0 tk51 (ae rfl hc) rfl rfl) (aG rfl rfl (fun hc => aZ Tryz.underlying51 (ae rfl hc)) (aG rfl rfl (fun hc => cN (ae rfl hc) rfl) (aU rfl (bY rfl rfl (fun h => gf rfl h)) (aM rfl ?_))))
   refine aG rfl rfl (fun hc => qFA (off := 3) rfl) ?_
   refine aG rfl rfl (fun hc => ah 0 tk52 (ae rfl hc) rfl rfl) (aG rfl rfl (fun hc => aZ Tryz.underlying52 (ae rfl hc)) (aG rfl rfl (fun hc => cN (ae rfl hc) rfl) (aU rfl (bY rfl rfl (fun h => gf rfl h)) (aM rfl ?_))))
   refine aG rfl rfl (fun hc => qFA (off := 5) rfl) ?_
   refine aG rfl rfl (fun hc => ah 0 tk54 (ae rfl hc) rfl rfl) (aG rfl rfl (fun hc => aZ Tryz.underlying54 (ae rfl hc)) (aG rfl rfl (fun hc => cN (ae rfl hc) rfl) (aU rfl (bY rfl rfl (fun h => gf rfl h)) (aM rfl ?_))))
   refine aG rfl rfl (fun hc => qFA (off := 10) rfl) ?_
   refine aG rfl rfl (fun hc => ah 0 tk59 (ae rfl hc) rfl rfl) (aG rfl rfl (fun hc => aZ Tryz.underlying59 (ae rfl hc)) (aG rfl rfl (fun hc => cN (ae rfl hc) rfl) (aU rfl (bY rfl rfl (fun h => gf rfl h)) (aNn ?_))))
   refine al _ rfl (fun h3 => ?_) (fun h3 => ?_)
   ·skip
    have hno : pD o = false := by unfold pD; simp at h3; simp; omega
    refine aSR (aA rfl (aNn (aJ (bu (aO (aO (bu (aO ?_))))))))
    refine br [] [] rfl Tryz.results25 rfl ?_ (.inr rfl)
    rw [show x.objs.l.all pD = false from List.all_eq_false.2 ⟨o, List.mem_of_getElem? ho, by rw [hno]; decide⟩]; rfl
   ·skip
    have hyes3 : pD o = true := by unfold pD; simp at h3; simp; omega
    refine aq (bB (az (aj (aM rfl ?_))))
    refine aU rfl (bd rfl rfl (by omega)) ?_
    refine aA rfl (aNn ?_)
    refine ⟨[0, 1, 2, 6, 7], [0], [], rfl, ?_⟩
    refine ⟨k + 1, ⟨⟨by omega, ?_⟩, rfl⟩, by omega⟩
    rw [List.take_add_one, ho, List.all_append, hall]; simp [hyes3]
  ·skip
   have hal1 : x.objs.l.all pD = true := by rw [List.take_of_length_le (by simp at h2; omega)] at hall; exact hall
   rw [hal1, Bool.true_and]
   refine aX (aY (aY (bf (az (aH (aSR ?_))))))
   refine aA rfl (aNn (aI (aT [1, 2, 6, 9] [0] [] (fun (k : Nat) st => (k ≤ x.keep.l.length ∧ (x.keep.l.take k).all (fun t => decide (t.l.length ≤ 10)) = true) ∧ st = ⟨[(1, true, x.keep.val), (2, true, x.choices.val), (6, true, .bool false), (9, true, .int .i64 k)], [x.ok], []⟩) (fun k => x.keep.l.length - k) rfl (⟨0, ⟨Nat.zero_le _, rfl⟩, rfl⟩) ?_)))
   rintro k2 st ⟨⟨hk2, hall2⟩, rfl⟩
   refine aH (aSR (aM rfl (aM rfl (aU rfl (aZ Tryz.underlying27 rfl) (aU rfl (bw rfl rfl) (aNn ?_))))))
   refine al _ rfl (fun h4 => ?_) (fun h4 => ?_)
   ·skip
    have hk2' : k2 < x.keep.l.length := by simp at h4; omega
    obtain ⟨t, ht⟩ : ∃ o, x.keep.l[k2]? = some o := ⟨_, List.getElem?_eq_getElem hk2'⟩
    refine aq (az (aH (aI (aSR (aM rfl (aM rfl ?_))))))
    refine cJ true rfl rfl (fun _ => av Tryz.underlying27 tk68 rfl ((bj.f_keep (.of (aF 0 rfl)))) rfl (aQ ht) rfl rfl) (fun h => absurd h (by decide)) (fun ⟨b12_2, o12_2⟩ => ?_)
    refine aU rfl (aP (o := 0) tk68 rfl (aF 0 rfl) rfl rfl) (aU rfl (aZ Tryz.underlying68 rfl) (aU rfl (cN rfl rfl) (aNn ?_)))
    refine al _ rfl (fun h5 => ?_) (fun h5 => ?_)
    ·skip
     have hno : ¬ t.l.length ≤ 10 := by simp at h5; omega
     refine aSR (aA rfl (aNn (aJ (bu (aO (aO (bu (aO ?_))))))))
     refine br [] [] rfl Tryz.results25 rfl ?_ (.inr rfl)
     rw [show x.keep.l.all (fun t => decide (t.l.length ≤ 10)) = false from List.all_eq_false.2 ⟨t, List.mem_of_getElem? ht, by simpa using hno⟩]; rfl
    ·skip
     have hy5 : t.l.length ≤ 10 := by simp at h5; omega
     refine aq (bB (az (aj (aM rfl ?_))))
     refine aU rfl (bd rfl rfl (by omega)) ?_
     refine aA rfl (aNn ?_)
     refine ⟨[1, 2, 6, 9], [0], [], rfl, ?_⟩
     refine ⟨k2 + 1, ⟨⟨by omega, ?_⟩, rfl⟩, by omega⟩
     rw [List.take_add_one, ht, List.all_append, hall2]; simp [hy5]
   ·skip
    have hal2 : x.keep.l.all (fun t => decide (t.l.length ≤ 10)) = true := by rw [List.take_of_length_le (by simp at h4; omega)] at hall2; exact hall2
    rw [hal2, Bool.true_and]
    refine aX (aY (aY (bf (az (aH (aSR ?_))))))
    refine aA rfl (aNn (aI (aT [2, 6, 10] [0] [] (fun (k : Nat) st => (k ≤ x.choices.l.length ∧ (x.choices.l.take k).all (fun t => decide (t.l.length ≤ 20)) = true) ∧ st = ⟨[(2, true, x.choices.val), (6, true, .bool false), (10, true, .int .i64 k)], [x.ok], []⟩) (fun k => x.choices.l.length - k) rfl (⟨0, ⟨Nat.zero_le _, rfl⟩, rfl⟩) ?_)))
    rintro k3 st ⟨⟨hk3, hall3⟩, rfl⟩
    refine aH (aSR (aM rfl (aM rfl (aU rfl (aZ Tryz.underlying31 rfl) (aU rfl (bw rfl rfl) (aNn ?_))))))
    refine al _ rfl (fun h6 => ?_) (fun h6 => ?_)
    ·skip
     have hk3' : k3 < x.choices.l.length := by simp at h6; omega
     obtain ⟨t, ht⟩ : ∃ o, x.choices.l[k3]? = some o := ⟨_, List.getElem?_eq_getElem hk3'⟩
     refine aq (az (aH (aI (aSR (aM rfl (aM rfl ?_))))))
     refine cJ true rfl rfl (fun _ => av Tryz.underlying31 tk66 rfl ((bj.f_choices (.of (aF 0 rfl)))) rfl (aQ ht) rfl rfl) (fun h => absurd h (by decide)) (fun ⟨b17_2, o17_2⟩ => ?_)
     refine aU rfl (aP (o := 0) tk66 rfl (aF 0 rfl) rfl rfl) (aU rfl (aZ Tryz.underlying66 rfl) (aU rfl (cN rfl rfl) (aNn ?_)))
     refine al _ rfl (fun h7 => ?_) (fun h7 => ?_)
     ·skip
      have hno : ¬ t.l.length ≤ 20 := by simp at h7; omega
      refine aSR (aA rfl (aNn (aJ (bu (aO (aO (bu (aO ?_))))))))
      refine br [] [] rfl Tryz.results25 rfl ?_ (.inr rfl)
      rw [show x.choices.l.all (fun t => decide (t.l.length ≤ 20)) = false from List.all_eq_false.2 ⟨t, List.mem_of_getElem? ht, by simpa using hno⟩]
     ·skip
      have hy7 : t.l.length ≤ 20 := by simp at h7; omega
      refine aq (bB (az (aj (aM rfl ?_))))
      refine aU rfl (bd rfl rfl (by omega)) ?_
      refine aA rfl (aNn ?_)
      refine ⟨[2, 6, 10], [0], [], rfl, ?_⟩
      refine ⟨k3 + 1, ⟨⟨by omega, ?_⟩, rfl⟩, by omega⟩
      rw [List.take_add_one, ht, List.all_append, hall3]; simp [hy7]
    ·skip
     have hal3 : x.choices.l.all (fun t => decide (t.l.length ≤ 20)) = true := by rw [List.take_of_length_le (by simp at h6; omega)] at hall3; exact hall3
     refine aX (aY (aY (bf (az (aSR (aA rfl (aNn (aJ ?_))))))))
     refine br [] [] rfl Tryz.results25 rfl ?_ (.inr rfl)
     rw [hal3]
def kg (t : Sl (Sl Bool)) (os : List ax) : Bool := decide (t.l.map (·.l.length) = os.map (·.secs.l.length))
theorem iU {t : Sl (Sl Bool)} {os : List ax} : kg t os = true ↔ t.l.length = os.length ∧ ∀ i, i < os.length → (elt t.l (i : Int)).l.length = (elt os (i : Int)).secs.l.length := by
 unfold kg
 rw [decide_eq_true_eq]
 constructor
 · intro h
   have hl : t.l.length = os.length := by have := congrArg List.length h; simpa using this
   refine ⟨hl, fun i hi => ?_⟩
   have h1 := bM (l := t.l) (i := i) (by omega)
   have h2 := bM (l := os) (i := i) hi
   have h3 := congrArg (fun l => l[i]?) h
   simp only [List.getElem?_map, h1, h2, Option.map_some, Option.some.injEq] at h3
   exact h3
 · rintro ⟨hl, h⟩
   refine List.ext_getElem? fun i => ?_
   by_cases hi : i < os.length
   · have h1 := bM (l := t.l) (i := i) (by omega)
     have h2 := bM (l := os) (i := i) hi
     rw [List.getElem?_map, List.getElem?_map, h1, h2, Option.map_some, Option.map_some, h i hi]
   · rw [List.getElem?_eq_none (by simpa using by omega), List.getElem?_eq_none (by simpa using by omega)]
theorem wX (x : bj) (t : Sl (Sl Bool)) : Con Tryz.prog 28 [t.val, x.objs.val] [fK t, x.ok] [] fun r _ _ => r = .bool (kg t x.objs.l) := by
 refine Con.enter Tryz.func28 rfl (by simp [Tryz.ntmps28]) ?_
 show awp _ _ _ _ ⟨[(0, true, _), (1, true, _)], _, _⟩
 refine bA (bj.f_objs (.of (aF 1 rfl))) (fun hlen => ?_)
 refine aSR (aA rfl (aNs (aSR (aM rfl (aU rfl (aZ Tryz.underlying27 rfl) (aM rfl (aU rfl (aZ Tryz.underlying22 rfl) (aU rfl (dB rfl rfl) (aNn ?_)))))))))
 refine al _ rfl (fun h1 => ?_) (fun h1 => ?_)
 ·skip
  have hno : t.l.length ≠ x.objs.l.length := by simp at h1; omega
  refine aSR (aA rfl (aNn (aJ (aO ?_))))
  refine br [] [] rfl Tryz.results28 rfl ?_ (.inr rfl)
  rw [show kg t x.objs.l = false from Bool.eq_false_iff.2 fun h => hno (iU.1 h).1]
 ·skip
  have hle : t.l.length = x.objs.l.length := by simp at h1; omega
  refine aq (az (aH (aSR (aA rfl (aNn (aI ?_))))))
  refine aT [0, 1, 4, 5] [1, 0] [] (fun (k : Nat) st => (k ≤ x.objs.l.length ∧ ∀ i, i < k → (elt t.l (i : Int)).l.length = (elt x.objs.l (i : Int)).secs.l.length) ∧ st = ⟨[(0, true, t.val), (1, true, x.objs.val), (4, true, .bool false), (5, true, .int .i64 k)], [fK t, x.ok], []⟩) (fun k => x.objs.l.length - k) rfl (⟨0, ⟨Nat.zero_le _, fun i hi => by omega⟩, rfl⟩) ?_
  rintro k st ⟨⟨hk, hall⟩, rfl⟩
  refine aH (aSR (aM rfl (aM rfl (aU rfl (aZ Tryz.underlying22 rfl) (aU rfl (bw rfl rfl) (aNn ?_))))))
  refine al _ rfl (fun h2 => ?_) (fun h2 => ?_)
  ·skip
   have hk' : k < x.objs.l.length := by simp at h2; omega
   have ho := bM hk'
   have ht := bM (l := t.l) (i := k) (by omega)
   refine aq (az (aH (aI (aH ?_))))
   refine bp [] (by kernel_rfl) ?_
   show aB _ _ _ _ _ 12 #[false, false, false, false, false, false, false, false, false, false, false, false] _
   refine bV 0 rfl rfl (aD rfl) ?_
   refine bV 1 rfl rfl (aD rfl) ?_
   refine dC 2 rfl (by kernel_rfl) true rfl rfl (fun _ => av Tryz.underlying27 tk68 rfl ((.left (.of (aF 0 rfl)))) rfl (aQ ht) rfl rfl) (fun h => absurd h (by decide)) (fun ⟨b6_2, o6_2⟩ => ?_)
   refine bV 3 rfl rfl (aP (o := 0) tk68 rfl (aF 0 rfl) rfl rfl) ?_
   refine bV 4 rfl rfl (aZ Tryz.underlying68 rfl) ?_
   refine bV 5 rfl rfl (aD rfl) ?_
   refine bV 6 rfl rfl (aD rfl) ?_
   refine dC 7 rfl (by kernel_rfl) true rfl rfl (fun _ => av Tryz.underlying22 tk61 rfl ((bj.f_objs (.of (aF 2 rfl)))) rfl (aQ ho) rfl rfl) (fun h => absurd h (by decide)) (fun ⟨b6_7, o6_7⟩ => ?_)
   refine bV 8 rfl rfl (qFA (off := 1) rfl) ?_
   refine bV 9 rfl rfl (aP (o := 1) tk50 rfl (aF 0 rfl) rfl rfl) ?_
   refine bV 10 rfl rfl (aZ Tryz.underlying50 rfl) ?_
   refine bV 11 rfl rfl (dB rfl rfl) ?_
   refine bO (by kernel_rfl) ?_
   refine az ?_
   refine al _ rfl (fun h3 => ?_) (fun h3 => ?_)
   ·skip
    have hno : (elt t.l (k : Int)).l.length ≠ (elt x.objs.l (k : Int)).secs.l.length := by simp at h3; omega
    refine aSR (aA rfl (aNn (aJ (bu (aO (aO (bu (aO ?_))))))))
    refine br [] [] rfl Tryz.results28 rfl ?_ (.inr rfl)
    rw [show kg t x.objs.l = false from Bool.eq_false_iff.2 fun h => hno ((iU.1 h).2 k hk')]
   ·skip
    have hyy : (elt t.l (k : Int)).l.length = (elt x.objs.l (k : Int)).secs.l.length := by simp at h3; omega
    refine aq (bB (az (aj (aM rfl ?_))))
    refine aU rfl (bd rfl rfl (by omega)) ?_
    refine aA rfl (aNn ?_)
    refine ⟨[0, 1, 4, 5], [1, 0], [], rfl, ?_⟩
    refine ⟨k + 1, ⟨⟨by omega, fun i hi => ?_⟩, rfl⟩, by omega⟩
    by_cases hik : i = k
    · rw [hik]; exact hyy
    · exact hall i (by omega)
  ·skip
   have hkl : k = x.objs.l.length := by simp at h2; omega
   subst hkl
   refine aX (aY (aY (bf (az (aSR (aA rfl (aNn (aJ ?_))))))))
   refine br [] [] rfl Tryz.results28 rfl ?_ (.inr rfl)
   rw [show kg t x.objs.l = true from iU.2 ⟨hle, hall⟩]
end Go.Proofs.YtgmiihmahaahiaaGreatDoor

namespace Go.Proofs.YtgmiihmahaahiaaGreatDoor
open Go.RowKit Go.Lp Go.Sy Go.Lv
open Go.Proofs.Tryz
attribute [local irreducible] aL aB awp aC fwp
abbrev kI (z : Int) : Value := .int .i64 z
abbrev vP (p : dr) : Value := p.val
theorem acv : ft Tryz.prog 3 kI := abY Tryz.underlying3
def fD (x : bj) (L : List dr) : Int → Option dr := L.foldl (fun m p => cO m (numOf x p) p) (fun _ => none)
theorem qQ (x : bj) (L : List dr) {k : Nat} {p : dr} (h : L[k]? = some p) : fD x (L.take (k + 1)) = cO (fD x (L.take k)) (numOf x p) p := by
 unfold fD; rw [List.take_add_one, h, List.foldl_append]; rfl
def si (x : bj) (z : Int) : List Int := fu (fw (cF x.objs.l x.objs.l.length) (eo x x.objs.l.length) (cY x x.objs.l.length)) (pG (fX (cF x.objs.l x.objs.l.length) (eo x x.objs.l.length) (cY x x.objs.l.length))) z
def abX (x : bj) (o s : Int) : List dr := if cM x.objs.l x.keep.l o s then (si x (elt x.first.l o + s)).map fun z => (fD x (dn x x.objs.l.length) z).getD default else []
theorem uu (l : List Int) : ∀ (f : Nat) (v : Int), (chain l f v).length ≤ f + 1
 | 0, v => Nat.le_refl _
 | f + 1, v => by
   unfold chain
   split
   · simp
   · have := uu l f (elt l v); rw [List.length_cons]; omega
theorem yD (l : List Int) (ρ : Int → Nat) (v : Int) : (fu l ρ v).length ≤ ρ v + 1 := by
 unfold fu; split
 · simp
 · rw [List.length_reverse]; exact uu _ _ _
theorem zZ (x : bj) (hf : mL x.objs.l) (o s : Int) : Con Tryz.prog 50 [x.r.val, x.objs.val, x.keep.val, x.choices.val, .int .i64 o, .int .i64 s] [x.ok] []
   fun r ps hp => ps = [] ∧ ∃ (t : Sl dr) (ad : Option Addr) (cap : Nat), r = t.val ∧ t.l = abX (lkF x ad cap x.objs.l.length) o s ∧ hp = [bg t.val 133 2 (t.l.map dr.row)] := by
 have hs6 : ∀ o ∈ x.objs.l, o.secs.l.length ≤ 6 := fun o ho => (hf.of o ho).1
 have hcn := oI hs6 _ (Nat.le_refl _)
 have hn4 := hf.n
 refine Con.enterM Tryz.func50 rfl (by simp [Tryz.ntmps50]) ?_
 show fwp _ _ _ _ _ ⟨[(0, true, _), (1, true, _), (2, true, _), (3, true, _), (4, true, _), (5, true, _)], _, _⟩
 refine i7 (aj ?_)
 refine an (q := true) rfl (cx rfl rfl rfl (fun b0_0 => ?_))
 refine aHN ?_
 refine aA rfl (aNn (i7 (aj (aU rfl (ah 0 tk79 rfl rfl rfl) (aM rfl (aM rfl ?_))))))
 refine aM rfl ?_
 refine an (q := true) rfl (bH [0] [] (by kernel_rfl) rfl rfl rfl rfl (sf x hn4 hs6) ?_)
 rintro _ _ _ ⟨rfl, lb, af, cf, rfl, rfl⟩
 refine aST ?_
 refine aA rfl (aNn (i7 (aSR (aM rfl (aM rfl ?_)))))
 refine aM rfl ?_
 refine aU rfl (dz (l := [(0, .tmp 26), (1, .tmp 27)]) (zs := [.int .i64 0, .int .i64 0]) (pl := [(0, 1), (1, 1)]) (by kernel_rfl) (by kernel_rfl) (by kernel_rfl) rfl rfl rfl) ?_
 refine aU rfl (bC (by kernel_rfl) rfl (fun w S fp hst => (lO (lkF x af cf x.objs.l.length) lb _ _).quiet2 (aF 0 rfl) (aF 1 rfl) hst)) ?_
 refine aU rfl (bZ rfl) (aNn ?_)
 refine al _ rfl (fun h1 => ?_) (fun h1 => ?_)
 ·skip
  have hk : cM x.objs.l x.keep.l o s = false := by simpa using h1
  refine aSR (aA rfl (aNn (eD 133 2 ?_)))
  show awp _ _ _ _ ⟨_, _, [_, _]⟩
  refine aJ (aO ?_)
  refine z8 [] [1] [] [] rfl Tryz.results50 rfl rfl rfl ?_ (.inr rfl)
  exact ⟨rfl, ⟨none, 0, []⟩, af, cf, rfl, (if_neg (by rw [show cM (lkF x af cf x.objs.l.length).objs.l (lkF x af cf x.objs.l.length).keep.l o s = false from hk]; decide)).symm, rfl⟩
 ·skip
  have hk : cM x.objs.l x.keep.l o s = true := by simpa using h1
  refine aq (az (i7 (aj ?_)))
  refine an (q := true) rfl (fk (kI) (vP) rfl (fun b4_0 => ?_))
  refine aHN ?_
  refine an (q := true) rfl (bc (zs := [.map none]) (by kernel_rfl) rfl (fun b4_1 => ?_))
  refine aHN ?_
  refine an rfl (aV 2 tk184 rfl rfl rfl rfl ?_)
  refine aHK ?_
  refine aNn (uy (aj (aM rfl ?_)))
  refine an (q := true) rfl (bH [] [] (by kernel_rfl) rfl rfl rfl rfl (pL (lkF x af cf x.objs.l.length) lb) ?_)
  rintro _ _ _ ⟨rfl, bk, rfl, rfl⟩
  refine aST ?_
  refine aNn ?_
  refine qC (Rr := fun _ ps hp2 => ps = [] ∧ hp2 = [dg b4_0 kI vP (fD (lkF x af cf x.objs.l.length) (dn (lkF x af cf x.objs.l.length) x.objs.l.length)), Box b4_1 184 [.map (some b4_0)]]) [3, 2, 1] [1, 2] rfl rfl (by kernel_rfl) rfl (fun l1 r1 ht1 he1 hs1 hn1 hp1 ha1 hb1 => ?_) (fun D1 RA1 RB1 w1 ps1 hq1 hR1 => ?_)
  ·skip
   refine wm (((oQ (lkF x af cf x.objs.l.length) (pU hn4 hs6) lb bk l1 (X := Int → Option dr) (fun q => Bun [et l1 r1, dg b4_0 kI vP q, Box b4_1 184 [.map (some b4_0)]]) (fun i q => q = fD (lkF x af cf x.objs.l.length) ((dn (lkF x af cf x.objs.l.length) x.objs.l.length).take i)) (At lb 0 ((lkF x af cf x.objs.l.length)).row) (fun _ => none) rfl (fun i p q hp hq => ?_)).pre ?_).post (fun v ps' hp' ⟨e1, q, hq, e2⟩ => ⟨_, e2, r1, _, rfl, by rw [hs1]; decide, hn1, e1, by rw [hq, List.take_length]⟩))
   · refine kx.post (ug (R := fun v ps hp => v = .bool true ∧ ps = [] ∧ hp = [et l1 r1, dg b4_0 kI vP (cO q (numOf (lkF x af cf x.objs.l.length) p) p), Box b4_1 184 [.map (some b4_0)]]) (ps := [At lb 0 ((lkF x af cf x.objs.l.length)).row]) ?_) ?_
     · skip
       refine p8 ht1 hp1 ha1 hb1 hs1 rfl he1 rfl (aSR (aA rfl (aNn (aj ?_))))
       refine an (q := true) rfl (bc (zs := [.int .i64 0, .int .i64 0]) (by kernel_rfl) rfl (fun b7_0 => ?_))
       refine aHN ?_
       refine an rfl (aV 3 tk133 rfl rfl rfl rfl ?_)
       refine aHK ?_
       refine cn ?_
       refine az ⟨rfl, ?_⟩
       refine nq (by (try simp only [nK, nL]); rfl) ?_
       refine aI (aj (aU rfl (ah 2 tk184 rfl rfl rfl) (aM rfl (aU rfl (ah 3 tk133 rfl rfl rfl) ?_))))
       refine an rfl (dQ (k := numOf (lkF x af cf x.objs.l.length) p) (v := p) 1 Tryz.underlying184 (acv) rfl rfl rfl rfl ?_)
       refine aHK ?_
       refine cn (bB ?_)
       refine ⟨none, [], [0, 1, 2], rfl, rfl, rfl, ?_⟩
       simp only [nK, nL]
       exact ⟨rfl, rfl, by rw [kC hs1 hn1]; rfl⟩
     · rintro v ps' hp' ⟨l', e, h1, h2, h3⟩
       refine ⟨h1, h2, cO q (numOf (lkF x af cf x.objs.l.length) p) p, ?_, e.trans (by rw [h3])⟩
       rw [hq, qQ _ _ hp]
   · intro p' hp'
     simp only [List.mem_cons, List.not_mem_nil, or_false] at hp'
     rcases hp' with rfl | rfl | rfl | rfl
     · exact .of (aF 1 rfl)
     · exact .of (aF 0 rfl)
     · exact .of (aF 1 rfl)
     · exact .of (aF 2 rfl)
  obtain ⟨rfl, rfl⟩ := hR1
  refine zd (by (try simp only [nM, nN]); rfl) (by (try simp only [nM, nN, nK, nL, nH, nI, dp, place, Nat.reduceBEq, if_true, if_false, reduceIte, Nat.reduceAdd, nW]); rfl) ?_
  refine ng (aH (eD 133 2 ?_))
  show awp _ _ _ _ ⟨_, _, [_, _, _, _, _, _]⟩
  have hkb := (pU (ad := af) (cap := cf) hn4 hs6).bound o s hk
  obtain ⟨ho, hos, _⟩ := eV hk
  have hfl := gW x.objs.l x.objs.l.length
  refine aj (aA rfl (aNs (aH ?_)))
  refine cP [] [] [] (by kernel_rfl) ?_
  show aC _ _ _ _ _ _ _ 20 #[false, false, false, false, false, false, false, false, false, false, false, false, false, false, false, false, false, false, false, false] _
  refine wx (X := Option Addr × Nat) (fun q => ⟨[(14, true, .pointer (some ⟨b4_1, 0, none⟩)), (17, true, .slice none 0 0), (56, true, .slice q.1 (si (lkF x af cf x.objs.l.length) (elt ((lkF x af cf x.objs.l.length)).first.l o + s)).length q.2), (57, true, .int .i64 (si (lkF x af cf x.objs.l.length) (elt ((lkF x af cf x.objs.l.length)).first.l o + s)).length), (58, true, .int .i64 0)], [Sh (.slice q.1 (si (lkF x af cf x.objs.l.length) (elt ((lkF x af cf x.objs.l.length)).first.l o + s)).length q.2) (.sl (bS encI (si (lkF x af cf x.objs.l.length) (elt ((lkF x af cf x.objs.l.length)).first.l o + s))))], [dg b4_0 kI vP (fD (lkF x af cf x.objs.l.length) (dn (lkF x af cf x.objs.l.length) x.objs.l.length)), Box b4_1 184 [.map (some b4_0)], j8 D1, bg (.slice none 0 0) 133 2 []]⟩) ?_ ?_
  ·skip
   refine bt 0 rfl (by kernel_rfl) true rfl rfl (fun _ => aD rfl) ?_
   refine bt 1 rfl (by kernel_rfl) true rfl rfl (fun _ => aR rfl) ?_
   refine bt 2 rfl (by kernel_rfl) true rfl rfl (fun _ => qFA (off := 11) rfl) ?_
   refine bt 3 rfl (by kernel_rfl) true rfl rfl (fun _ => aN (o := 11) tk3 rfl (.of (aF 1 rfl)) rfl) ?_
   refine bt 4 rfl (by kernel_rfl) true rfl rfl (fun _ => aD rfl) ?_
   refine bt 6 rfl (by kernel_rfl) true rfl rfl (fun _ => aD rfl) ?_
   refine bt 8 rfl (by kernel_rfl) true rfl rfl (fun _ => aD rfl) ?_
   refine bt 9 rfl (by kernel_rfl) true rfl rfl (fun _ => aR rfl) ?_
   refine bt 10 rfl (by kernel_rfl) true rfl rfl (fun _ => qFA (off := 10) rfl) ?_
   refine bt 11 rfl (by kernel_rfl) true rfl rfl (fun _ => aN (o := 10) tk90 rfl (.of (aF 1 rfl)) rfl) ?_
   refine bt 12 rfl (by kernel_rfl) true rfl rfl (fun _ => aD rfl) ?_
   refine jo 13 rfl (by kernel_rfl) rfl rfl (cD Tryz.underlying90 tk3 rfl ((bj.f_first (x := (lkF x af cf x.objs.l.length)) (.of (aF 2 rfl)))) rfl (bI (i := o) (by rw [hfl]; omega) (by omega)) (by omega) rfl) (fun ⟨b10_13, o10_13⟩ => ?_)
   refine bt 14 rfl (by kernel_rfl) true rfl rfl (fun _ => aN (o := 0) tk3 rfl (.of (aF 0 rfl)) rfl) ?_
   refine bt 15 rfl (by kernel_rfl) true rfl rfl (fun _ => aD rfl) ?_
   refine bt 16 rfl (by kernel_rfl) true rfl rfl (fun _ => bd rfl rfl (by omega)) ?_
   refine bt 19 rfl (by kernel_rfl) true rfl rfl (fun _ => aD rfl) ?_
   refine cq 5 [] (by kernel_rfl) (bL ?_ bX)
   refine cR 5 rfl rfl (Eff.x ?_)
   refine id (bH [2, 1] [] (by kernel_rfl) rfl rfl rfl rfl (ue (lkF x af cf x.objs.l.length) (pU hn4 hs6) hf lb) ?_)
   rintro _ _ _ ⟨rfl, aa, ca, rfl, rfl⟩
   refine dD (by (try simp only [nO, nK, nL]); rfl) (by (try simp only [nM, nN]); rfl) (by (try simp only [bK, nQ, nR, dp, place, Nat.reduceBEq, if_true, if_false, reduceIte, Nat.reduceAdd, nW]); rfl) ?_
   refine cq 7 [] (by kernel_rfl) (bL ?_ bX)
   refine cR 7 rfl rfl (Eff.x ?_)
   refine id (bH [2, 1] [] (by kernel_rfl) rfl rfl rfl rfl (qy (lkF x af cf x.objs.l.length) (pU hn4 hs6) hf lb) ?_)
   rintro _ _ _ ⟨rfl, ar, cr, rfl, rfl⟩
   refine dD (by (try simp only [nO, nK, nL]); rfl) (by (try simp only [nM, nN]); rfl) (by (try simp only [bK, nQ, nR, dp, place, Nat.reduceBEq, if_true, if_false, reduceIte, Nat.reduceAdd, nW]); rfl) ?_
   refine cq 17 [] (by kernel_rfl) (bL ?_ bX)
   refine cR 17 rfl rfl (Eff.x ?_)
   refine id (bH [5, 6] [] (by kernel_rfl) rfl rfl rfl rfl (aaw (cF x.objs.l x.objs.l.length) (by omega) ⟨aa, ca, eo (lkF x af cf x.objs.l.length) x.objs.l.length⟩ (by have := kR (x := (lkF x af cf x.objs.l.length)) hf _ (Nat.le_refl _); dsimp only at this ⊢; omega) iZ ⟨ar, cr, cY (lkF x af cf x.objs.l.length) x.objs.l.length⟩ (by have := iS (x := (lkF x af cf x.objs.l.length)) hf _ (Nat.le_refl _); dsimp only at this ⊢; omega) (elt ((lkF x af cf x.objs.l.length)).first.l o + s) (by have := i1 hk; rw [← gE hk] at this; exact this)) ?_)
   rintro r56 _ _ ⟨rfl, aw, cw, rfl, rfl⟩
   refine dD (by (try simp only [nO, nK, nL]); rfl) (by (try simp only [nM, nN]); rfl) (by (try simp only [bK, nQ, nR, dp, place, Nat.reduceBEq, if_true, if_false, reduceIte, Nat.reduceAdd, nW]); rfl) ?_
   refine bt 18 rfl (by kernel_rfl) true rfl rfl (fun _ => aZ Tryz.underlying90 rfl) ?_
   refine eN (by kernel_rfl) ?_
   exact ⟨rfl, [14, 17, 56, 57, 58], [7], [1, 2, 3, 5], (aw, cw), rfl, rfl⟩
  ·skip
   rintro ⟨aw, cw⟩
   refine az (aI ?_)
   obtain ⟨wl, hwl⟩ : ∃ wl, (si (lkF x af cf x.objs.l.length) (elt ((lkF x af cf x.objs.l.length)).first.l o + s)) = wl := ⟨_, rfl⟩
   have hwn : wl.length ≤ 1000000 := by
     rw [← hwl]
     refine Nat.le_trans (yD _ _ _) ?_
     have h1 := we (fX (cF x.objs.l x.objs.l.length) (eo (lkF x af cf x.objs.l.length) x.objs.l.length) (cY (lkF x af cf x.objs.l.length) x.objs.l.length)) (elt ((lkF x af cf x.objs.l.length)).first.l o + s)
     have h2 : (fX (cF x.objs.l x.objs.l.length) (eo (lkF x af cf x.objs.l.length) x.objs.l.length) (cY (lkF x af cf x.objs.l.length) x.objs.l.length)).length ≤ _ := nX (rs := di (cY (lkF x af cf x.objs.l.length) x.objs.l.length)) (mr iZ)
     have h3 := oz (cY (lkF x af cf x.objs.l.length) x.objs.l.length)
     have h4 := iS (x := (lkF x af cf x.objs.l.length)) hf _ (Nat.le_refl _)
     dsimp only at h4
     show pG (fX (cF x.objs.l x.objs.l.length) (eo (lkF x af cf x.objs.l.length) x.objs.l.length) (cY (lkF x af cf x.objs.l.length) x.objs.l.length)) (elt ((lkF x af cf x.objs.l.length)).first.l o + s) + 1 ≤ _
     omega
   obtain ⟨pl, hpl⟩ : ∃ pl : Int → dr, pl = fun z => (fD (lkF x af cf x.objs.l.length) (dn (lkF x af cf x.objs.l.length) x.objs.l.length) z).getD default := ⟨_, rfl⟩
   have hpz : ∀ z, (fD (lkF x af cf x.objs.l.length) (dn (lkF x af cf x.objs.l.length) x.objs.l.length) z).getD default = pl z := fun z => by rw [hpl]
   rw [hwl]
   refine aT [14, 17, 56, 57, 58] [0] [0, 1, 2, 3] (fun (p : Nat × Value) s => p.1 ≤ wl.length ∧ s = ⟨[(14, true, .pointer (some ⟨b4_1, 0, none⟩)), (17, true, p.2), (56, true, .slice aw wl.length cw), (57, true, .int .i64 wl.length), (58, true, .int .i64 p.1)], [Sh (.slice aw wl.length cw) (.sl (bS encI wl))], [dg b4_0 kI vP (fD (lkF x af cf x.objs.l.length) (dn (lkF x af cf x.objs.l.length) x.objs.l.length)), Box b4_1 184 [.map (some b4_0)], j8 D1, bg p.2 133 2 ((wl.take p.1).map fun z => dr.row (pl z))]⟩) (fun p => wl.length - p.1) rfl (⟨(0, .slice none 0 0), Nat.zero_le _, rfl⟩) ?_
   rintro ⟨k, vo⟩ s ⟨hk', rfl⟩
   dsimp only at hk'
   refine aSR (aU rfl (bw rfl rfl) (aNs ?_))
   refine al _ rfl (fun h2 => ?_) (fun h2 => ?_)
   ·skip
    have hkl : k < wl.length := by simp at h2; omega
    obtain ⟨v, hv⟩ : ∃ v, wl[k]? = some v := ⟨_, List.getElem?_eq_getElem hkl⟩
    refine aq (az (aH (aI (aSR ?_))))
    refine cJ true rfl rfl (fun _ => av Tryz.underlying90 tk3 rfl ((.of (aF 0 rfl))) rfl (fR hv) rfl rfl) (fun h => absurd h (by decide)) (fun ⟨b12_0, o12_0⟩ => ?_)
    refine aU rfl (aP (o := 0) tk3 rfl (aF 0 rfl) rfl rfl) (aA rfl (aNn (aj (aM rfl (aU rfl (ah 1 tk184 rfl rfl rfl) (aM rfl ?_))))))
    refine aU rfl (jd (k := v) (v0 := default) 0 Tryz.underlying184 (acv) (by kernel_rfl) rfl rfl rfl) ?_
    refine an (q := true) rfl (cB (zs := [.int .i64 0, .int .i64 0]) (l := [(0, .tmp 65)]) el130 (by kernel_rfl) (by decide) (by decide) (by decide) rfl rfl rfl (.more rfl (.v rfl (.v rfl .nil)) .nil) rfl rfl (fun v13_4 => ?_))
    refine aHN ?_
    refine an rfl (cL 3 el130 rfl rfl rfl rfl (dR 4 el130 rfl (by simp)) (by first | assumption | simp) (by simp; omega) _ rfl (fun v13_5 c13_5 => ?_))
    refine aHK ?_
    refine aA rfl (cn (bB (az (aj ?_))))
    refine aU rfl (bd rfl rfl (by omega)) ?_
    refine aM rfl (aNn ?_)
    refine ⟨[14, 17, 56, 57, 58], [0], [0, 1, 2, 3], rfl, ?_⟩
    refine ⟨(k + 1, .slice v13_5 (((wl.take k).map fun z => dr.row (pl z)).length + 1) c13_5), ⟨by dsimp only; omega, ?_⟩, by dsimp only; omega⟩
    dsimp only
    rw [hpz v, show (wl.take (k + 1)).map (fun z => dr.row (pl z)) = (wl.take k).map (fun z => dr.row (pl z)) ++ [dr.row (pl v)] by rw [List.take_add_one, hv, List.map_append]; rfl]
    rfl
   ·skip
    have hkl : k = wl.length := by simp at h2; omega
    subst hkl
    rw [List.take_length]
    dsimp only
    refine aX (aY (aY (bf (az (aSR (aM rfl (aA rfl (aNn ?_))))))))
    refine iM 3 rfl (fun ad kc hv => ?_)
    rw [List.length_map] at hv
    subst hv
    refine aJ ?_
    refine z8 [] [3] [2] [D1] rfl Tryz.results50 rfl rfl rfl ?_ (.inr rfl)
    refine ⟨rfl, ⟨ad, kc, wl.map pl⟩, af, cf, ?_, ?_, ?_⟩
    · simp [Sl.val]
    · rw [hpl, ← hwl]; exact (if_pos (show cM (lkF x af cf x.objs.l.length).objs.l (lkF x af cf x.objs.l.length).keep.l o s = true from hk)).symm
    · show [bg (.slice ad wl.length kc) _ _ _] = [bg (.slice ad (wl.map pl).length kc) _ _ ((wl.map pl).map dr.row)]
      rw [List.map_map, List.length_map]; rfl
end Go.Proofs.YtgmiihmahaahiaaGreatDoor

namespace Go.Proofs.YtgmiihmahaahiaaGreatDoor
open Go.RowKit Go.Lp Go.Sy Go.Lv
open Go.Proofs.Tryz
theorem wi {os : List ax} {a b o s : Int} (h1 : (0 ≤ a ∧ a < os.length) ∧ 0 ≤ b ∧ b < (elt os a).secs.l.length) (h2 : (0 ≤ o ∧ o < os.length) ∧ 0 ≤ s ∧ s < (elt os o).secs.l.length) (h : gD os a b = gD os o s) : a = o ∧ b = s := by
 have key : ∀ {a b o s : Int}, (0 ≤ a ∧ a < os.length) → (0 ≤ b ∧ b < (elt os a).secs.l.length) → 0 ≤ s → a < o → gD os a b ≠ gD os o s := by
   intro a b o s ha hb hs hao
   have h1 : cF os (a.toNat + 1) ≤ cF os o.toNat := kT os (by omega)
   have h2 : cF os (a.toNat + 1) = cF os a.toNat + (elt os ((a.toNat : Nat) : Int)).secs.l.length := rfl
   rw [Int.toNat_of_nonneg ha.1] at h2
   unfold gD; omega
 rcases Int.lt_trichotomy a o with h3 | h3 | h3
 · exact (key h1.1 h1.2 h2.2.1 h3 h).elim
 · subst h3
   unfold gD at h
   exact ⟨rfl, by omega⟩
 · exact (key h2.1 h2.2 h1.2.1 h3 h.symm).elim
theorem iq {os : List ax} {kp : List (Sl Bool)} {o s : Int} (h : cM os kp o s = true) : (0 ≤ o ∧ o < os.length) ∧ 0 ≤ s ∧ s < (elt os o).secs.l.length := ⟨(eV h).1, (eV h).2.1⟩
theorem fl {x : bj} {o k a b : Int} : gw x o k a b = true ↔ (0 ≤ k ∧ k < (elt x.objs.l o).syms.l.length) ∧ kB x o k = false ∧ (bP x.choices.l o k).obj = a ∧ fV x o k = b ∧ cM x.objs.l x.keep.l a b = true := by
 unfold gw rJ
 rw [Bool.and_eq_true, decide_eq_true_eq]
 refine and_congr Iff.rfl ?_
 by_cases hb : kB x o k = true
 · rw [if_pos hb, hb]; simp
 · have hb' : kB x o k = false := by simpa using hb
   rw [if_neg hb, hb']
   simp only [Bool.and_eq_true, decide_eq_true_eq]
   constructor
   · rintro ⟨⟨h1, h2⟩, h3⟩; exact ⟨trivial, h2, h3, by rw [← h2, ← h3]; exact h1⟩
   · rintro ⟨_, h2, h3, h1⟩; exact ⟨⟨by rw [h2, h3]; exact h1, h2⟩, h3⟩
section
variable {x : bj} {ad : Option Addr} {cap : Nat}
theorem ix {o k z : Int} : cH (lkF x ad cap x.objs.l.length) o k = some z ↔ ∃ a b, gw x o k a b = true ∧ z = gD x.objs.l a b := by
 have hbad : jL (lkF x ad cap x.objs.l.length) o k = false ↔ (0 ≤ k ∧ k < (elt x.objs.l o).syms.l.length) ∧ kB x o k = false := by
   unfold jL kB
   simp only [cS, Bool.or_eq_false_iff, Bool.not_eq_false', Bool.and_eq_true, decide_eq_true_eq, decide_eq_false_iff_not, ge_iff_le]
   constructor
   · rintro ⟨⟨⟨h1, h2⟩, h3⟩, h4⟩; exact ⟨h1, h2, h3.1, h3.2, h4.1, h4.2⟩
   · rintro ⟨h1, h2, h3, h4, h5, h6⟩; exact ⟨⟨⟨h1, h2⟩, h3, h4⟩, h5, h6⟩
 unfold cH
 by_cases hb : jL (lkF x ad cap x.objs.l.length) o k = true
 · rw [if_pos hb]
   refine ⟨fun h => (by cases h), fun ⟨a, b, h1, _⟩ => ?_⟩
   have := fl.1 h1
   rw [hbad.2 ⟨this.1, this.2.1⟩] at hb; cases hb
 · rw [if_neg hb]
   have hb' := hbad.1 (by simpa using hb)
   by_cases hk : cM x.objs.l x.keep.l (bP x.choices.l o k).obj (fV x o k) = true
   · rw [if_pos (show cM (lkF x ad cap x.objs.l.length).objs.l (lkF x ad cap x.objs.l.length).keep.l (bP (lkF x ad cap x.objs.l.length).choices.l o k).obj (fV (lkF x ad cap x.objs.l.length) o k) = true from hk)]
     have hfirst : elt (lkF x ad cap x.objs.l.length).first.l (bP (lkF x ad cap x.objs.l.length).choices.l o k).obj + fV (lkF x ad cap x.objs.l.length) o k = gD x.objs.l (bP x.choices.l o k).obj (fV x o k) := gE hk
     rw [hfirst]
     constructor
     · intro h
       simp only [Option.some.injEq] at h
       exact ⟨_, _, fl.2 ⟨hb'.1, hb'.2, rfl, rfl, hk⟩, h.symm⟩
     · rintro ⟨a, b, h1, rfl⟩
       obtain ⟨_, _, rfl, rfl, _⟩ := fl.1 h1
       rfl
   · rw [if_neg (show ¬ cM (lkF x ad cap x.objs.l.length).objs.l (lkF x ad cap x.objs.l.length).keep.l (bP (lkF x ad cap x.objs.l.length).choices.l o k).obj (fV (lkF x ad cap x.objs.l.length) o k) = true from hk)]
     refine ⟨fun h => (by cases h), fun ⟨a, b, h1, _⟩ => ?_⟩
     obtain ⟨_, _, rfl, rfl, h2⟩ := fl.1 h1
     exact (hk h2).elim
theorem jM {o k z : Int} : z ∈ (cH (lkF x ad cap x.objs.l.length) o k).toList ↔ ∃ a b, gw x o k a b = true ∧ z = gD x.objs.l a b := by
 rw [← ix (ad := ad) (cap := cap), Option.mem_toList]
theorem j3 {o s k u v : Int} : (⟨u, v⟩ : dy) ∈ gj (lkF x ad cap x.objs.l.length) o s k ↔ cM x.objs.l x.keep.l o s = true ∧ u = gD x.objs.l o s ∧ ∃ a b, gw x o k a b = true ∧ v = gD x.objs.l a b := by
 unfold gj
 by_cases h : ((cH (lkF x ad cap x.objs.l.length) o k).isSome && cM x.objs.l x.keep.l o s) = true
 · rw [if_pos (show ((cH (lkF x ad cap x.objs.l.length) o k).isSome && cM (lkF x ad cap x.objs.l.length).objs.l (lkF x ad cap x.objs.l.length).keep.l o s) = true from h)]
   rw [Bool.and_eq_true] at h
   obtain ⟨z, hz⟩ := Option.isSome_iff_exists.1 h.1
   have hf : elt (lkF x ad cap x.objs.l.length).first.l o + s = gD x.objs.l o s := gE h.2
   rw [hf, hz, List.mem_singleton]
   simp only [Option.getD_some, dy.mk.injEq]
   constructor
   · rintro ⟨h1, h2⟩; exact ⟨h.2, h1, ix.1 (by rw [hz, h2])⟩
   · rintro ⟨_, h1, h2⟩
     have h3 := (ix (ad := ad) (cap := cap)).2 h2
     rw [hz] at h3
     exact ⟨h1, (Option.some.inj h3).symm⟩
 · rw [if_neg (show ¬ ((cH (lkF x ad cap x.objs.l.length) o k).isSome && cM (lkF x ad cap x.objs.l.length).objs.l (lkF x ad cap x.objs.l.length).keep.l o s) = true from h)]
   refine ⟨fun h => (by cases h), fun ⟨h1, _, h2⟩ => (h ?_).elim⟩
   rw [h1, (ix (ad := ad) (cap := cap)).2 h2]; rfl
theorem j0 {a b o s : Int} : nw x a b o s = true ↔ cM x.objs.l x.keep.l a b = true ∧ ((∃ r ∈ (elt x.objs.l a).rels.l, r.sec = b ∧ gw x a r.sym o s = true) ∨ ∃ c ∈ (elt x.objs.l a).converts.l, c.sec = b ∧ gw x a c.code o s = true) := by
 unfold nw sG wI
 simp only [Bool.and_eq_true, Bool.or_eq_true, List.any_eq_true, decide_eq_true_eq]
theorem uk {u v : Int} : (⟨u, v⟩ : dy) ∈ eo (lkF x ad cap x.objs.l.length) x.objs.l.length ↔ ∃ a b o s, nw x a b o s = true ∧ u = gD x.objs.l a b ∧ v = gD x.objs.l o s := by
 unfold eo
 rw [List.mem_flatMap]
 constructor
 · rintro ⟨k, hk, h⟩
   unfold kJ at h
   rcases List.mem_append.1 h with h | h
   · unfold ep at h
     obtain ⟨r, hr, h⟩ := List.mem_flatMap.1 h
     obtain ⟨h1, h2, o, s, h3, h4⟩ := j3.1 h
     exact ⟨_, _, o, s, j0.2 ⟨h1, .inl ⟨r, hr, rfl, h3⟩⟩, h2, h4⟩
   · unfold gn at h
     obtain ⟨r, hr, h⟩ := List.mem_flatMap.1 h
     obtain ⟨h1, h2, o, s, h3, h4⟩ := j3.1 h
     exact ⟨_, _, o, s, j0.2 ⟨h1, .inr ⟨r, hr, rfl, h3⟩⟩, h2, h4⟩
 · rintro ⟨a, b, o, s, h, rfl, rfl⟩
   obtain ⟨hk, h⟩ := j0.1 h
   have hkr := iq hk
   have ha : ((a.toNat : Nat) : Int) = a := Int.toNat_of_nonneg hkr.1.1
   refine ⟨a.toNat, List.mem_range.2 (by omega), ?_⟩
   unfold kJ
   rw [ha]
   rcases h with ⟨r, hr, rfl, hL⟩ | ⟨r, hr, rfl, hL⟩
   · refine List.mem_append_left _ ?_
     unfold ep
     rw [ha]
     exact List.mem_flatMap.2 ⟨r, hr, j3.2 ⟨hk, rfl, o, s, hL, rfl⟩⟩
   · refine List.mem_append_right _ ?_
     unfold gn
     rw [ha]
     exact List.mem_flatMap.2 ⟨r, hr, j3.2 ⟨hk, rfl, o, s, hL, rfl⟩⟩
theorem qJ {a b : ByteArray} (h : a.toList = b.toList) : a = b := by
 rw [ByteArray.toList_eq, ByteArray.toList_eq] at h
 cases a; cases b; congr 1; exact Array.toList_inj.1 h
theorem aaA (m : ByteArray → Option Bool) (nm : ByteArray) (y : bE) : (jf m y nm).getD false = ((m nm).getD false || iL nm y) := by
 unfold jf iL
 by_cases h : y.bind ≠ 0 ∧ y.vis = 2
 · rw [if_pos h, decide_eq_true h.1, decide_eq_true h.2]
   unfold cO
   by_cases hn : nm = y.name
   · subst hn; rw [if_pos rfl]; simp
   · rw [if_neg hn, decide_eq_false (fun hh => hn (qJ hh).symm)]; simp
 · rw [if_neg h]
   have : (decide (y.bind ≠ 0) && decide (y.vis = 2)) = false := by
     rw [← Bool.decide_and]; exact decide_eq_false h
   rw [Bool.and_assoc, this]; simp
theorem sw (nm : ByteArray) : ∀ (l : List bE) (m : ByteArray → Option Bool), (er m l nm).getD false = ((m nm).getD false || l.any (iL nm))
 | [], m => by simp [er]
 | y :: l, m => by
   show (er (jf m y) l nm).getD false = _
   rw [sw nm l, aaA, List.any_cons, Bool.or_assoc]
theorem abE (nm : ByteArray) (os : List ax) : (gI os nm).getD false = gQ os nm := by
 have : ∀ (os : List ax) (m : ByteArray → Option Bool), ((os.foldl (fun m o => er m o.syms.l) m) nm).getD false = ((m nm).getD false || gQ os nm) := by
   intro os
   induction os with
   | nil => intro m; simp [gQ]
   | cons o os ih => intro m; rw [List.foldl_cons, ih, sw]; unfold gQ; rw [List.any_cons, Bool.or_assoc]
 unfold gI
 rw [this]; rfl
theorem mD {z : Int} {k j : Nat} {y : bE} : z ∈ fh (lkF x ad cap x.objs.l.length) k j y ↔ ∃ a b, hP x a b k j y = true ∧ z = gD x.objs.l a b := by
 have hcond : ((bP x.choices.l (k : Int) (j : Int)).kind = 2 ∧ (bP x.choices.l (k : Int) (j : Int)).obj = k ∧ (bP x.choices.l (k : Int) (j : Int)).sym = j ∧ (iF x y = true ∨ (gI x.objs.l y.name).getD false = false)) ↔ (jV x k j = true ∧ (iF x y || !gQ x.objs.l y.name) = true) := by
   rw [abE]
   unfold jV
   simp only [Bool.and_eq_true, decide_eq_true_eq, Bool.or_eq_true, Bool.not_eq_true']
   constructor
   · rintro ⟨h1, h2, h3, h4⟩; exact ⟨⟨⟨h1, h2⟩, h3⟩, h4⟩
   · rintro ⟨⟨⟨h1, h2⟩, h3⟩, h4⟩; exact ⟨h1, h2, h3, h4⟩
 have e : fh (lkF x ad cap x.objs.l.length) k j y = if ((bP x.choices.l (k : Int) (j : Int)).kind = 2 ∧ (bP x.choices.l (k : Int) (j : Int)).obj = k ∧ (bP x.choices.l (k : Int) (j : Int)).sym = j ∧ (iF x y = true ∨ (gI x.objs.l y.name).getD false = false)) then (cH (lkF x ad cap x.objs.l.length) k j).toList else [] := rfl
 rw [e]
 by_cases h : jV x k j = true ∧ (iF x y || !gQ x.objs.l y.name) = true
 · rw [if_pos (hcond.2 h), jM]
   unfold hP
   rw [h.1, h.2]
   simp
 · rw [if_neg (fun hh => h (hcond.1 hh))]
   refine ⟨fun h => (by cases h), fun ⟨a, b, h1, _⟩ => (h ?_).elim⟩
   unfold hP at h1
   simp only [Bool.and_eq_true] at h1
   exact ⟨h1.1.1, h1.2⟩
theorem qK {p : dr} : p ∈ dn x x.objs.l.length ↔ cM x.objs.l x.keep.l p.obj p.sec = true := by
 constructor
 · intro h
   obtain ⟨k, s, _, rfl, h2⟩ := nh h
   exact h2
 · intro h
   have hr := iq h
   have ha : ((p.obj.toNat : Nat) : Int) = p.obj := Int.toNat_of_nonneg hr.1.1
   have hb : ((p.sec.toNat : Nat) : Int) = p.sec := Int.toNat_of_nonneg hr.2.1
   have := rY x (k := p.obj.toNat) (j := p.sec.toNat) (by omega) (by rw [ha]; omega) (by rw [ha, hb]; exact h)
   have hm := List.mem_of_getElem? this
   rw [ha, hb] at hm
   exact hm
theorem qx {z : Int} : z ∈ cY (lkF x ad cap x.objs.l.length) x.objs.l.length ↔ ∃ a b, od x a b = true ∧ z = gD x.objs.l a b := by
 have hroot : ∀ a b, od x a b = true ↔ cM x.objs.l x.keep.l a b = true ∧ ((elt (elt x.objs.l a).secs.l b).keep = true ∨ ∃ i, i < x.objs.l.length ∧ ((∃ k, k < (elt x.objs.l (i : Int)).syms.l.length ∧ hP x a b i k (elt (elt x.objs.l (i : Int)).syms.l (k : Int)) = true) ∨ ∃ z ∈ (elt x.objs.l (i : Int)).inits.l, gw x i z.sym a b = true)) := fun a b => by
   unfold od rK ow l9
   simp only [Bool.and_eq_true, Bool.or_eq_true, List.any_eq_true, List.mem_range]
 unfold cY
 rw [List.mem_append]
 constructor
 · rintro (h | h)
   · unfold ik at h
     obtain ⟨p, hp, h⟩ := List.mem_flatMap.1 h
     have hk : cM x.objs.l x.keep.l p.obj p.sec = true := qK.1 hp
     unfold jP at h
     split at h
     · rename_i hkeep
       refine ⟨p.obj, p.sec, (hroot _ _).2 ⟨hk, .inl hkeep⟩, ?_⟩
       rw [List.mem_singleton.1 h]; exact gE hk
     · cases h
   · obtain ⟨i, hi, h⟩ := List.mem_flatMap.1 h
     have hi' := List.mem_range.1 hi
     unfold jm at h
     rcases List.mem_append.1 h with h | h
     · unfold dM at h
       obtain ⟨k, hk, h⟩ := List.mem_flatMap.1 h
       obtain ⟨a, b, h1, h2⟩ := mD.1 h
       have hkept : cM x.objs.l x.keep.l a b = true := by
         unfold hP at h1
         simp only [Bool.and_eq_true] at h1
         exact (fl.1 h1.1.2).2.2.2.2
       exact ⟨a, b, (hroot _ _).2 ⟨hkept, .inr ⟨i, hi', .inl ⟨k, List.mem_range.1 hk, h1⟩⟩⟩, h2⟩
     · unfold eP at h
       obtain ⟨t, ht, h⟩ := List.mem_flatMap.1 h
       obtain ⟨a, b, h1, h2⟩ := jM.1 h
       exact ⟨a, b, (hroot _ _).2 ⟨(fl.1 h1).2.2.2.2, .inr ⟨i, hi', .inr ⟨t, ht, h1⟩⟩⟩, h2⟩
 · rintro ⟨a, b, h, rfl⟩
   obtain ⟨hk, h | ⟨i, hi, h⟩⟩ := (hroot _ _).1 h
   · refine .inl ?_
     unfold ik
     refine List.mem_flatMap.2 ⟨⟨a, b⟩, qK.2 hk, ?_⟩
     unfold jP
     rw [if_pos h, List.mem_singleton]; exact (gE hk).symm
   · refine .inr (List.mem_flatMap.2 ⟨i, List.mem_range.2 hi, ?_⟩)
     unfold jm
     rcases h with ⟨k, hk2, h⟩ | ⟨t, ht, h⟩
     · exact List.mem_append_left _ (List.mem_flatMap.2 ⟨k, List.mem_range.2 hk2, mD.2 ⟨a, b, h, rfl⟩⟩)
     · exact List.mem_append_right _ (List.mem_flatMap.2 ⟨t, ht, jM.2 ⟨a, b, h, rfl⟩⟩)
inductive pA (x : bj) : Int → Int → Prop where
 | root {a b : Int} : od x a b = true → pA x a b
 | needs {a b o s : Int} : pA x a b → nw x a b o s = true → pA x o s
theorem kH {a b o s : Int} (h : nw x a b o s = true) : cM x.objs.l x.keep.l a b = true ∧ cM x.objs.l x.keep.l o s = true := by
 obtain ⟨h1, ⟨_, _, _, h2⟩ | ⟨_, _, _, h2⟩⟩ := j0.1 h
 · exact ⟨h1, (fl.1 h2).2.2.2.2⟩
 · exact ⟨h1, (fl.1 h2).2.2.2.2⟩
theorem pA.kept {a b : Int} (h : pA x a b) : cM x.objs.l x.keep.l a b = true := by
 cases h with
 | root h => unfold od at h; rw [Bool.and_eq_true] at h; exact h.1
 | needs _ h => exact (kH h).2
theorem wy {v : Int} : Rch (cF x.objs.l x.objs.l.length) (fq (cF x.objs.l x.objs.l.length) (eo (lkF x ad cap x.objs.l.length) x.objs.l.length)) (di (cY (lkF x ad cap x.objs.l.length) x.objs.l.length)) v ↔ ∃ a b, pA x a b ∧ v = gD x.objs.l a b := by
 constructor
 · intro h
   induction h with
   | root h _ _ =>
     obtain ⟨a, b, h1, h2⟩ := qx.1 (mf.1 h)
     exact ⟨a, b, .root h1, h2⟩
   | @arc u v hu hv ih =>
     obtain ⟨a, b, h1, h2⟩ := ih
     have hlt := i1 h1.kept
     obtain ⟨arc, harc, e1, e2⟩ := (mg iZ (by rw [h2]; exact hlt)).1 hv
     obtain ⟨from_, to_⟩ := arc
     dsimp only at e1 e2
     subst e1; subst e2
     obtain ⟨a', b', o, s, h3, h4, h5⟩ := uk.1 harc
     obtain ⟨rfl, rfl⟩ := wi (iq h1.kept) (iq (kH h3).1) (h2.symm.trans h4)
     exact ⟨o, s, .needs h1 h3, h5⟩
 · rintro ⟨a, b, h, rfl⟩
   induction h with
   | @root a b h =>
     have hk := (pA.root h).kept
     exact .root (mf.2 (qx.2 ⟨a, b, h, rfl⟩)) (i1 hk).1 (i1 hk).2
   | @needs a b o s h1 h2 ih =>
     exact .arc ih ((mg iZ (i1 (kH h2).1)).2 ⟨⟨gD x.objs.l a b, gD x.objs.l o s⟩, uk.2 ⟨a, b, o, s, h2, rfl, rfl⟩, rfl, rfl⟩)
end
end Go.Proofs.YtgmiihmahaahiaaGreatDoor

namespace Go.Proofs.YtgmiihmahaahiaaGreatDoor
open Go.RowKit Go.Lp Go.Sy Go.Lv
open Go.Proofs.Tryz
theorem zH (N : Nat) (l : List Int) (hl : ∀ v ∈ l, 0 ≤ v ∧ v < N) (j : Nat) (hj : j < N) : (gh N l)[j]? = some (decide ((j : Int) ∈ l)) := by
 have : ∀ (l : List Int) (b : List Bool), (∀ v ∈ l, 0 ≤ v ∧ v < (N : Int)) → b.length = N → (l.foldl (fun b v => b.set v.toNat true) b)[j]? = if (j : Int) ∈ l then some true else b[j]? := by
   intro l
   induction l with
   | nil => intro b _ _; simp
   | cons v l ih =>
     intro b hl hb
     have hv := hl v List.mem_cons_self
     rw [List.foldl_cons, ih _ (fun w hw => hl w (List.mem_cons_of_mem _ hw)) (by simpa using hb)]
     by_cases h : (j : Int) ∈ l
     · rw [if_pos h, if_pos (List.mem_cons_of_mem _ h)]
     · rw [if_neg h, List.getElem?_set]
       by_cases hjv : (j : Int) = v
       · rw [if_pos (by omega), if_pos (by omega), if_pos (by rw [hjv]; exact List.mem_cons_self)]
       · rw [if_neg (by omega), if_neg (fun hh => (List.mem_cons.1 hh).elim hjv h)]
 unfold gh
 rw [this l _ hl (by simp)]
 by_cases h : (j : Int) ∈ l
 · rw [if_pos h, decide_eq_true h]
 · rw [if_neg h, decide_eq_false h, List.getElem?_replicate, if_pos hj]
theorem vN {N : Nat} {b : List Int} {v : Int} : v ∈ fy N b ↔ (0 ≤ v ∧ v < N) ∧ 0 ≤ elt b v := by
 unfold fy
 rw [List.mem_map]
 constructor
 · rintro ⟨k, hk, rfl⟩
   obtain ⟨h1, h2⟩ := List.mem_filter.1 hk
   have := List.mem_range.1 h1
   exact ⟨by omega, of_decide_eq_true h2⟩
 · rintro ⟨⟨h0, h1⟩, h2⟩
   have e : ((v.toNat : Nat) : Int) = v := Int.toNat_of_nonneg h0
   exact ⟨v.toNat, List.mem_filter.2 ⟨List.mem_range.2 (by omega), decide_eq_true (by rw [e]; exact h2)⟩, e⟩
section
variable {x : bj} {ad : Option Addr} {cap : Nat}
theorem yd {v : Int} : v ∈ ea (lkF x ad cap x.objs.l.length) ↔ ∃ a b, pA x a b ∧ v = gD x.objs.l a b := by
 unfold ea
 rw [vN]
 constructor
 · rintro ⟨⟨h0, h1⟩, h2⟩
   exact wy.1 ((kl (jw _) (mr iZ) h0 h1).1 h2)
 · rintro ⟨a, b, h, rfl⟩
   have hlt := i1 h.kept
   exact ⟨hlt, (kl (jw _) (mr iZ) hlt.1 hlt.2).2 (wy.2 ⟨a, b, h, rfl⟩)⟩
theorem aai {i : Nat} (hi : i < x.objs.l.length) : (jr (lkF x ad cap x.objs.l.length))[i]? = some (j7 x.objs.l (gh (cF x.objs.l x.objs.l.length) (ea (lkF x ad cap x.objs.l.length))) i) := by
 unfold jr; rw [List.getElem?_map, List.getElem?_range hi]; rfl
theorem sQ : (jr (lkF x ad cap x.objs.l.length)).length = x.objs.l.length := by simp [jr]
variable {t : Sl (Sl Bool)}
theorem wB (ht : eX t = jr (lkF x ad cap x.objs.l.length)) {i : Nat} (hi : i < x.objs.l.length) : (elt t.l (i : Int)).l = j7 x.objs.l (gh (cF x.objs.l x.objs.l.length) (ea (lkF x ad cap x.objs.l.length))) i := by
 have hl : t.l.length = x.objs.l.length := by rw [← sQ (x := x) (ad := ad) (cap := cap), ← ht]; simp [eX]
 have h1 : (eX t)[i]? = some (elt t.l (i : Int)).l := by unfold eX; rw [List.getElem?_map, bM (l := t.l) (i := i) (by omega)]; rfl
 rw [ht, aai hi] at h1
 exact (Option.some.inj h1).symm
theorem yQ (ht : eX t = jr (lkF x ad cap x.objs.l.length)) : kg t x.objs.l = true := by
 have hl : t.l.length = x.objs.l.length := by rw [← sQ (x := x) (ad := ad) (cap := cap), ← ht]; simp [eX]
 exact iU.2 ⟨hl, fun i hi => by rw [wB ht hi]; exact (lK (lv _ _) hi).1⟩
theorem sF (ht : eX t = jr (lkF x ad cap x.objs.l.length)) {i k : Nat} (hi : i < x.objs.l.length) (hk : k < (elt x.objs.l (i : Int)).secs.l.length) : elt (elt t.l (i : Int)).l (k : Int) = true ↔ pA x i k := by
 rw [wB ht hi]
 have hb := (lK (lv (cF x.objs.l x.objs.l.length) (ea (lkF x ad cap x.objs.l.length))) hi).2
 rw [lv] at hb
 have hg : (j7 x.objs.l (gh (cF x.objs.l x.objs.l.length) (ea (lkF x ad cap x.objs.l.length))) i)[k]? = some (decide (((cF x.objs.l i + k : Nat) : Int) ∈ ea (lkF x ad cap x.objs.l.length))) := by
   unfold j7
   rw [List.getElem?_take, if_pos hk, List.getElem?_drop]
   exact zH _ _ (fun v hv => pR hv) _ (by omega)
 have he : elt (j7 x.objs.l (gh (cF x.objs.l x.objs.l.length) (ea (lkF x ad cap x.objs.l.length))) i) (k : Int) = decide (((cF x.objs.l i + k : Nat) : Int) ∈ ea (lkF x ad cap x.objs.l.length)) := by
   unfold elt; rw [List.getD_eq_getElem?_getD, Int.toNat_natCast, hg]; rfl
 rw [he, decide_eq_true_eq, yd]
 have hn : ((cF x.objs.l i + k : Nat) : Int) = gD x.objs.l (i : Int) (k : Int) := by unfold gD; rw [Int.toNat_natCast, Int.natCast_add]
 rw [hn]
 constructor
 · rintro ⟨a, b, h1, h2⟩
   obtain ⟨rfl, rfl⟩ := wi ⟨⟨by omega, by omega⟩, by omega, by omega⟩ (iq h1.kept) h2
   exact h1
 · intro h; exact ⟨_, _, h, rfl⟩
end
end Go.Proofs.YtgmiihmahaahiaaGreatDoor

namespace Go.Sy
open Go.RowKit Go.Lp
section
variable {P : Program} {n : Fr} {d : Option Tmp} {ty : TypeId} {pos : String} {af : Array Edge} {gd : Option (Nat × Bool)} {s : Sta} {x y : Operand} {t t' : TypeId} {a b : ByteArray}
end
end Go.Sy
namespace Go.Proofs.YtgmiihmahaahiaaGreatDoor
open Go.RowKit Go.Lp Go.Sy
open Go.Proofs.Tryz
section
variable {kp : List (Sl Bool)} {L : List Dfn} {sv : ByteArray → ByteArray → Bool} {lf : ByteArray → ByteArray → Int} {lib : Bool}
theorem aa2 (h : RB kp L sv lf lib) {d : Dfn} (hd : d ∈ L) : (((chD kp L sv lf lib d).kind = 2 ∨ (chD kp L sv lf lib d).kind = 3) ∧ (chD kp L sv lf lib d).obj = d.p.obj ∧ (chD kp L sv lf lib d).sym = d.p.sym) ↔ jJ kp L d = true := by
 constructor
 · rintro ⟨h1, h2, h3⟩
   obtain ⟨_, e, he, hx⟩ := aaW h1
   obtain ⟨m1, m2, _⟩ := oG h.asc he
   rw [hx] at h2 h3
   have hp : e.p = d.p := by
     have a1 : e.p.obj = d.p.obj := h2
     have a2 : e.p.sym = d.p.sym := h3
     cases hep : e.p; cases hdp : d.p; simp_all
   rw [← mT h.asc m1 hd hp]; exact m2
 · intro hc
   have hb : d.s.bind ≠ 0 := by
     have := ot h.asc hd hc
     intro hb; unfold fC at this; simp [hb] at this
   rw [oS hb (np h.asc h.t2 hd hc)]
   refine ⟨?_, rfl, rfl⟩
   unfold wS
   by_cases h3 : d.s.bind = 3
   · right; simp [h3]
   · left; simp [h3]
theorem abL (h : RB kp L sv lf lib) {d : Dfn} (hd : d ∈ L) (hc : jJ kp L d = true) : chD kp L sv lf lib d = wS kp L lib d.s d := by
 have hb : d.s.bind ≠ 0 := by
   have := ot h.asc hd hc
   intro hb; unfold fC at this; simp [hb] at this
 exact oS hb (np h.asc h.t2 hd hc)
end
theorem abf {os : List ax} {kp : List (Sl Bool)} {sv : ByteArray → ByteArray → Bool} {lf : ByteArray → ByteArray → Int} {lib : Bool} {S : List (Sl bq)} (h : abc os kp sv lf lib S) : kD S (bQ os) (bQ os) = (mQ kp (bQ os)).map lS := by
 unfold kD mQ
 congr 1
 refine List.filter_congr fun d hd => ?_
 obtain ⟨i, k, hi, hk, hp⟩ := gu.1 hd
 have hg := h.get i k d.s _ hk (bM (by have := h.fits.1; omega))
 have he : elt (elt S d.p.obj).l d.p.sym = chD kp (bQ os) sv lf lib d := by
   rw [hp]
   show elt (elt S (i : Int)).l (k : Int) = _
   unfold elt at hg ⊢
   rw [List.getD_eq_getElem?_getD]
   rw [show ((k : Nat) : Int).toNat = k from rfl, hg]
   rw [← hp]; rfl
 unfold tU
 rw [he]
 have := aa2 h.rb hd
 rw [Bool.eq_iff_iff]
 simp only [Bool.and_eq_true, Bool.or_eq_true, decide_eq_true_eq]
 rw [← this]
 constructor
 · rintro ⟨a, b, c, e⟩; exact ⟨⟨a, b, c⟩, e⟩
 · rintro ⟨⟨a, b, c⟩, e⟩; exact ⟨a, b, c, e⟩
structure MnK (xs : List bF) (i : Nat) (m : Int) : Prop where
 lo : m = 0 ∨ m = 1
 wit : m = 1 → ∃ (j p : Nat) (x y : bF), i = p + 1 ∧ j ≤ p ∧ xs[j]? = some x ∧ xs[p]? = some y ∧ x.main = true ∧ x.name = y.name
end Go.Proofs.YtgmiihmahaahiaaGreatDoor

namespace Go.Proofs.YtgmiihmahaahiaaGreatDoor
open Go.RowKit Go.Lp Go.Sy Go.Lv
open Go.Proofs.Tryz
theorem aaK {L : List Dfn} {n : ByteArray} {d : Dfn} (hd : d ∈ L) (hn : d.s.name = n) (hb : d.s.bind ≠ 0) : d.s.vis ≤ iu L n := by
 have key : ∀ (L : List Dfn) (v : Int), v ≤ L.foldl (fun v d => if d.s.name = n ∧ d.s.bind ≠ 0 then max v d.s.vis else v) v ∧ (d ∈ L → d.s.vis ≤ L.foldl (fun v d => if d.s.name = n ∧ d.s.bind ≠ 0 then max v d.s.vis else v) v) := by
   intro L
   induction L with
   | nil => intro v; exact ⟨Int.le_refl _, fun h => by cases h⟩
   | cons e L ih =>
     intro v
     rw [List.foldl_cons]
     have hv : v ≤ (if e.s.name = n ∧ e.s.bind ≠ 0 then max v e.s.vis else v) := by split <;> omega
     refine ⟨Int.le_trans hv (ih _).1, fun h => ?_⟩
     rcases List.mem_cons.1 h with rfl | h
     · refine Int.le_trans ?_ (ih _).1
       rw [if_pos ⟨hn, hb⟩]; omega
     · exact (ih _).2 h
 exact (key L 0).2 hd
theorem aaz {L : List Dfn} {n : ByteArray} (h : ∀ d ∈ L, d.s.vis ≤ 2) : iu L n ≤ 2 := by
 have key : ∀ (L : List Dfn) (v : Int), v ≤ 2 → (∀ d ∈ L, d.s.vis ≤ 2) → L.foldl (fun v d => if d.s.name = n ∧ d.s.bind ≠ 0 then max v d.s.vis else v) v ≤ 2 := by
   intro L
   induction L with
   | nil => intro v hv _; exact hv
   | cons e L ih =>
     intro v hv hL
     rw [List.foldl_cons]
     refine ih _ ?_ fun d hd => hL d (List.mem_cons_of_mem _ hd)
     have := hL e List.mem_cons_self
     split <;> omega
 exact key L 0 (by omega) h
theorem zQ {os : List ax} (h : ∀ o ∈ os, ∀ s ∈ o.syms.l, s.vis ≤ 2) {d : Dfn} (hd : d ∈ bQ os) : d.s.vis ≤ 2 := by
 obtain ⟨i, k, h1, h2, _⟩ := gu.1 hd
 exact h _ (List.mem_of_getElem? (bM h1)) _ (List.mem_of_getElem? h2)
theorem yf {os : List ax} (hv : ∀ o ∈ os, ∀ s ∈ o.syms.l, s.vis ≤ 2) {n : ByteArray} (h : iu (bQ os) n ≠ 2) : gQ os n = false := by
 unfold gQ
 rw [List.any_eq_false]
 intro o ho hh
 obtain ⟨s, hs, h1⟩ := List.any_eq_true.1 hh
 unfold iL at h1
 simp only [Bool.and_eq_true, decide_eq_true_eq] at h1
 obtain ⟨i, hi⟩ := List.getElem?_of_mem ho
 obtain ⟨k, hk⟩ := List.getElem?_of_mem hs
 have hi' := (List.getElem?_eq_some_iff.1 hi).1
 have e : elt os (i : Int) = o := by have := bM hi'; rw [hi] at this; exact (Option.some.inj this).symm
 have hd : (⟨⟨(i : Int), (k : Int)⟩, s⟩ : Dfn) ∈ bQ os := gu.2 ⟨i, k, hi', by rw [e]; exact hk, rfl⟩
 have h2 := aaK hd (n := n) (qJ h1.1.1) h1.1.2
 have h3 := aaz (n := n) (fun d hd => zQ hv hd)
 have h4 : s.vis = 2 := h1.2
 dsimp only at h2
 omega
theorem zf {x : bj} {sv : ByteArray → ByteArray → Bool} {lf : ByteArray → ByteArray → Int} {lib : Bool} (hok : jv x.objs.l x.keep.l) (hB : abc x.objs.l x.keep.l sv lf lib x.choices.l)
   (hv : ∀ o ∈ x.objs.l, ∀ s ∈ o.syms.l, s.vis ≤ 2) {d : Dfn} (hd : d ∈ mQ x.keep.l (bQ x.objs.l)) (h3 : d.s.bind ≠ 3) :
   ∃ a b c : Nat, a < x.objs.l.length ∧ (elt x.objs.l (a : Int)).syms.l[b]? = some d.s ∧ d.p = ⟨(a : Int), (b : Int)⟩ ∧ d.s.sec = c ∧ c < (elt x.objs.l (a : Int)).secs.l.length ∧ pA x a c := by
 obtain ⟨hdL, hdC, hdV⟩ := oW.1 hd
 obtain ⟨a, b, ha, hab, hp⟩ := gu.1 hdL
 have hdef := ot hB.rb.asc hdL hdC
 have hown := abL hB.rb hdL hdC
 unfold fC at hdef
 rw [decide_eq_false h3, Bool.false_or] at hdef
 simp only [Bool.and_eq_true, decide_eq_true_eq] at hdef
 obtain ⟨hb, hsec, hkp⟩ := hdef
 rw [hp] at hkp
 have ho := List.mem_of_getElem? (bM ha)
 have hs := List.mem_of_getElem? hab
 have hrange : 0 ≤ d.s.sec ∧ d.s.sec < (elt x.objs.l (a : Int)).secs.l.length := by
   rcases hok.sec _ ho _ hs with h | h
   · omega
   · exact h
 obtain ⟨c, hc⟩ := Int.eq_ofNat_of_zero_le hrange.1
 have hcl : c < (elt x.objs.l (a : Int)).secs.l.length := by omega
 refine ⟨a, b, c, ha, hab, hp, hc, hcl, ?_⟩
 have hkept : cM x.objs.l x.keep.l (a : Int) (c : Int) = true := by
   unfold cM cS
   have h1 := hok.kn
   have h2 := hok.ks a ha
   have h4 : elt (elt x.keep.l (a : Int)).l (c : Int) = true := by rw [← hc]; exact hkp
   rw [h4]
   simp only [Bool.and_eq_true, decide_eq_true_eq, Bool.and_true, ge_iff_le]
   omega
 have hbl : b < (elt x.objs.l (a : Int)).syms.l.length := (List.getElem?_eq_some_iff.1 hab).1
 have hsa := bM (l := x.choices.l) (i := a) (by have := hB.fits.1; omega)
 have hget := hB.get a b d.s _ hab hsa
 have hdd : (⟨⟨(a : Int), (b : Int)⟩, d.s⟩ : Dfn) = d := by obtain ⟨p, s⟩ := d; dsimp only at hp ⊢; rw [hp]
 rw [hdd, hown] at hget
 have hch : bP x.choices.l (a : Int) (b : Int) = wS x.keep.l (bQ x.objs.l) lib d.s d := by
   have hf := hB.fits.2 a ha
   have h1 := hB.fits.1
   unfold bP
   rw [if_pos (by unfold cS; simp only [Bool.and_eq_true, decide_eq_true_eq, ge_iff_le]; omega)]
   unfold elt at hget ⊢
   rw [List.getD_eq_getElem?_getD, Int.toNat_natCast b, hget]; rfl
 have hch2 : bP x.choices.l (a : Int) (b : Int) = ⟨2, (a : Int), (b : Int), 0, mh x.keep.l (bQ x.objs.l) d.s d, lib && decide (iu (bQ x.objs.l) d.s.name = 0)⟩ := by
   rw [hch]; unfold wS; rw [if_neg h3, hp]
 have hes : elt (elt x.objs.l (a : Int)).syms.l (b : Int) = d.s := by
   have := bM hbl; rw [hab] at this; exact (Option.some.inj this).symm
 have hso : fV x (a : Int) (b : Int) = (c : Int) := by
   unfold fV; rw [hch2]; dsimp only; rw [hes, hc]
 refine .root ?_
 unfold od
 rw [hkept, Bool.true_and, Bool.or_eq_true]
 refine .inr (qZ ha ?_)
 rw [Bool.or_eq_true]
 refine .inl (List.any_eq_true.2 ⟨b, List.mem_range.2 hbl, ?_⟩)
 unfold hP
 have hchosen : jV x (a : Int) (b : Int) = true := by unfold jV; rw [hch2]; simp
 have hleads : gw x (a : Int) (b : Int) (a : Int) (c : Int) = true := by
   refine fl.2 ⟨⟨by omega, by omega⟩, ?_, by rw [hch2], hso, hkept⟩
   unfold kB; rw [hch2]; simp; omega
 rw [hchosen, hleads, hes, yf hv hdV]
 simp
end Go.Proofs.YtgmiihmahaahiaaGreatDoor

