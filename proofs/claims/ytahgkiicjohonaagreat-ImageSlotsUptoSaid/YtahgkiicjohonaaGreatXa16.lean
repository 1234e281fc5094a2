/- Parts of the proof, in build order. No condition. -/
import Derived.Test.YtahgkiicjohonaaGreatXa15
import Derived.Test.YtahgkiicjohonaaGreatXa05
import Derived.Test.YtahgkiicjohonaaGreatXa09
import Derived.Test.YtahgkiicjohonaaGreatXa06
import Derived.Shelf.SlSortCmp.WholeK
import Derived.Shelf.SlSortCmp.NoneTotal
import Derived.Test.YtahgkiicjohonaaGreatProg
import Derived.Ground.SlsfProg
set_option linter.unusedSimpArgs false
set_option linter.unusedVariables false
set_option maxHeartbeats 1000000
set_option maxRecDepth 20000
namespace Go.Proofs.YtahgkiicjohonaaGreat
open Go.RowKit Go.Lp Go.Sy Go.Lv
open Go.Proofs.Tryz
attribute [local irreducible] aL aB awp aC fwp Quiet
abbrev kZ (z : Int) : Value := .int .i64 z
theorem kyI : gV Tryz.prog 3 kZ := aec Tryz.underlying3
theorem zQ (im : ax) (x : bk) (hs : x.sec.size ≤ maxLen) (ho : x.obj.size ≤ maxLen) : Con Tryz.prog 95 [im.val, x.val] [] [] fun r _ _ => r = .bool (gW im x) := by
 refine EN2 Tryz.func95 rfl (aSR (LT rfl (cx rfl rfl rfl (fun b0_0 => (aHN ?_)))))
 refine LT rfl (cx rfl rfl rfl (fun b0_1 => (aHN ?_)))
 refine aA rfl (aNs (aSR (UO 2 rfl rfl (UL 1 tk3 rfl rfl rfl rfl (aU rfl (Q0 rfl (dg _ _ _)) (aU rfl (dp rfl) (aM rfl (GO 1 rfl rfl rfl (GL 1 tk9 rfl rfl rfl rfl rfl (aG rfl rfl (fun hc => Q0 (aJ (ae rfl hc) rfl) (gn _ hs)) (aG rfl rfl (fun hc => dp (ae rfl hc)) (aU rfl (cK rfl rfl (fun h => gf rfl h)) (aM rfl (GO 0 rfl rfl rfl (GL 1 tk9 rfl rfl rfl rfl rfl ?_)))))))))))))))
 refine aG rfl rfl (fun hc => Q0 (aJ (ae rfl hc) rfl) (jZ _ ho)) (aG rfl rfl (fun hc => dp (ae rfl hc)) (aU rfl (cK rfl rfl (fun h => gf rfl h)) (aM rfl (GO 5 rfl rfl rfl (GL 1 tk9 rfl rfl rfl rfl rfl (aG rfl rfl (fun hc => cj Tryz.underlying9 (ae rfl hc)) (aG rfl rfl (fun hc => eG (ae rfl hc) rfl) (aU rfl (cK rfl rfl (fun h => gf rfl h)) (aM rfl (GO 6 rfl rfl rfl (GL 1 tk9 rfl rfl rfl rfl rfl (aG rfl rfl (fun hc => cj Tryz.underlying9 (ae rfl hc)) (aG rfl rfl (fun hc => eG (ae rfl hc) rfl) (aG rfl rfl (fun hc => aP (ae rfl hc)) (GO 6 rfl rfl rfl ?_)))))))))))))))
 refine GL 1 tk9 rfl rfl rfl rfl rfl (aG rfl rfl (fun hc => cj Tryz.underlying9 (ae rfl hc)) (aG rfl rfl (fun hc => eG (ae rfl hc) rfl) (aG rfl rfl (fun hc => bp (ae rfl hc) rfl (fun h => gt hc h)) (aU rfl (cK rfl rfl (fun h => gf rfl h)) (aM rfl (GO 4 rfl rfl rfl (GL 1 tk3 rfl rfl rfl rfl rfl (aG rfl rfl (fun hc => eK (by kernel_rfl) (aJ (ae rfl hc) (aJ (ae rfl rfl) (aJ (ae rfl rfl) rfl))) (fun w S fp hst => (dg _ _ _).quiet0 hst)) (aG rfl rfl (fun hc => dp (ae rfl hc)) (aU rfl (cK rfl rfl (fun h => gf rfl h)) (aM rfl (GO 3 rfl rfl rfl (GL 1 tk3 rfl rfl rfl rfl rfl (aG rfl rfl (fun hc => eK (by kernel_rfl) (aJ (ae rfl hc) (aJ (ae rfl rfl) (aJ (ae rfl rfl) rfl))) (fun w S fp hst => (dg _ _ _).quiet0 hst)) ?_))))))))))))))
 refine aG rfl rfl (fun hc => dp (ae rfl hc)) (aU rfl (cK rfl rfl (fun h => gf rfl h)) (aNn ?_))
 refine ao _ rfl (fun h1 => ?_) (fun h1 => ?_)
 ·skip
  have hbad : ig x = true := h1
  refine aSR (aA rfl (aNn (az (bu (FZ1 [] Tryz.results95 rfl ?_)))))
  unfold gW; rw [hbad]; rfl
 ·skip
  have hbad : ig x = false := h1
  obtain ⟨hk, hsz, hat⟩ := j7 hbad
  refine ar (an (aSR (LT rfl (fQ (kZ) (pV) rfl (fun b3_0 => (aHN ?_))))))
  refine UO 2 rfl rfl (UL 0 tk3 rfl rfl rfl rfl (aU rfl (l3 (l := [(0, .const (.int .i64 0)), (1, .tmp 55)]) (zs := [.int .i64 0, .int .i64 0]) (sz := 1) (m := 2) (by kernel_rfl) (by kernel_rfl) rfl rfl rfl) (aT rfl (jk (k := (0 : Int)) (v := ((0 : Int), im.code)) 2 Tryz.underlying254 (kyI) rfl rfl rfl rfl (aHK ?_)))))
  refine UO 2 rfl rfl (UL 0 tk3 rfl rfl rfl rfl (UO 3 rfl rfl (UL 0 tk3 rfl rfl rfl rfl (aU rfl (l3 (l := [(0, .tmp 58), (1, .tmp 60)]) (zs := [.int .i64 0, .int .i64 0]) (sz := 1) (m := 2) (by kernel_rfl) (by kernel_rfl) rfl rfl rfl) (aT rfl (jk (k := (1 : Int)) (v := (im.code, im.data)) 2 Tryz.underlying254 (kyI) rfl rfl rfl rfl (aHK ?_)))))))
  refine UO 3 rfl rfl (UL 0 tk3 rfl rfl rfl rfl (UO 4 rfl rfl (UL 0 tk3 rfl rfl rfl rfl (aU rfl (l3 (l := [(0, .tmp 63), (1, .tmp 65)]) (zs := [.int .i64 0, .int .i64 0]) (sz := 1) (m := 2) (by kernel_rfl) (by kernel_rfl) rfl rfl rfl) (aT rfl (jk (k := (2 : Int)) (v := (im.data, im.zero)) 2 Tryz.underlying254 (kyI) rfl rfl rfl rfl (aHK ?_)))))))
  refine UO 7 rfl rfl (UL 0 tk3 rfl rfl rfl rfl (aU rfl (l3 (l := [(0, .const (.int .i64 0)), (1, .tmp 68)]) (zs := [.int .i64 0, .int .i64 0]) (sz := 1) (m := 2) (by kernel_rfl) (by kernel_rfl) rfl rfl rfl) (aT rfl (jk (k := (3 : Int)) (v := ((0 : Int), im.block)) 2 Tryz.underlying254 (kyI) rfl rfl rfl rfl (aHK ?_)))))
  refine UO 7 rfl rfl (UL 0 tk3 rfl rfl rfl rfl (aU rfl (l3 (l := [(0, .const (.int .i64 0)), (1, .tmp 71)]) (zs := [.int .i64 0, .int .i64 0]) (sz := 1) (m := 2) (by kernel_rfl) (by kernel_rfl) rfl rfl rfl) (aT rfl (jk (k := (4 : Int)) (v := ((0 : Int), im.block)) 2 Tryz.underlying254 (kyI) rfl rfl rfl rfl (aHK ?_)))))
  refine aM rfl (aA rfl (aNn (aSR (aM rfl (UO 2 rfl rfl (UL 1 tk3 rfl rfl rfl rfl (aU rfl (l4 (k := x.kind) (v0 := ((0 : Int), (0 : Int))) 2 Tryz.underlying254 (kyI) (by kernel_rfl) rfl rfl rfl) (LT rfl (bI (zs := [.int .i64 0, .int .i64 0]) (by kernel_rfl) rfl (fun b4_4 => (aHN ?_)))))))))))
  refine aT rfl (bg 3 tk253 rfl rfl rfl rfl (aHK ?_))
  refine aNs ?_
  rw [aaY im hk]
  refine aa (UO 3 rfl rfl (UL 1 tk3 rfl rfl rfl rfl (aU rfl (u9 (0) Tryz.underlying253 tk3 rfl rfl (rfl) (by decide)) (UL 3 tk3 rfl rfl rfl rfl (aU rfl (fk rfl rfl) (aM rfl (GO 3 rfl rfl rfl (GL 1 tk3 rfl rfl rfl rfl rfl (GO 4 rfl rfl rfl (GL 1 tk3 rfl rfl rfl rfl rfl ?_))))))))))
  refine aG rfl rfl (fun hc => aX (ae rfl hc) (ae rfl hc) (by (first | omega | (simp at hc; omega)))) ?_
  refine aG rfl rfl (fun hc => u9 (1) Tryz.underlying253 tk3 rfl rfl (rfl) (by decide)) (GL 3 tk3 rfl rfl rfl rfl rfl (aG rfl rfl (fun hc => eF (ae rfl hc) (ae rfl hc)) (aU rfl (bp rfl rfl (fun h => gt rfl h)) (aM rfl (GO 2 rfl rfl rfl (GL 1 tk3 rfl rfl rfl rfl rfl (aG rfl rfl (fun hc => eG (ae rfl hc) rfl) (aG rfl rfl (fun hc => aP (ae rfl hc)) (GO 3 rfl rfl rfl (GL 1 tk3 rfl rfl rfl rfl rfl (aG rfl rfl (fun hc => iF (ae rfl hc) rfl (by decide)) ?_)))))))))))
  refine aG rfl rfl (fun hc => ck (ae rfl hc) rfl) (aG rfl rfl (fun hc => cK (ae rfl hc) rfl (fun h => gf hc h)) (aU rfl (bp rfl rfl (fun h => gt rfl h)) (aA rfl (aNn (az (FZ1 [] Tryz.results95 rfl ?_))))))
  unfold gW; rw [hbad]; rfl
end Go.Proofs.YtahgkiicjohonaaGreat

namespace Go.Proofs.YtahgkiicjohonaaGreat
open Go.RowKit Go.Lp Go.Sy Go.Lv
abbrev keyOf (x : bk) : ByteArray × ByteArray := (x.obj, x.sec)
abbrev gr (x : bk) : bE := ⟨x.at_, x.size⟩
abbrev sf (s : Int) : bE := ⟨s, 8⟩
def oJ (l : List bk) : List bE := (l.filter fun x => gj x.kind).map gr
def vd (l : List bk) : List bE := (l.filter fun x => !gj x.kind).map gr
def kx (im : ax) (i : Nat) (s : Int) : Bool := !((!instrB im.code s) || (decide ((i : Int) > 0) && decide (elt im.stubs.l ((i : Int) - 1) ≥ s)))
def kV (im : ax) : Bool := (decide ((im.nodes.l.length : Int) > 4096) || decide ((im.stubs.l.length : Int) > 4096)) || !allI (fun _ x => gW im x) 0 im.nodes.l
def iM (im : ax) : Bool := (!kV im) &&
 (decide ((im.nodes.l.map keyOf).Nodup) && (allI (kx im) 0 im.stubs.l && (qd (oJ im.nodes.l ++ im.stubs.l.map sf) && qd (vd im.nodes.l))))
structure NdI (im : ax) (k : Nat) (mem blk : List bE) : Prop where
 le : k ≤ im.nodes.l.length
 m : mem = oJ (im.nodes.l.take k)
 b : blk = vd (im.nodes.l.take k)
 nd : ((im.nodes.l.take k).map keyOf).Nodup
section
variable {im : ax} {k : Nat} {mem blk : List bE} {x : bk}
theorem aam (l : List bk) (x : bk) : oJ (l ++ [x]) = if gj x.kind = true then oJ l ++ [gr x] else oJ l := by
 unfold oJ; rw [List.filter_append, List.map_append]
 by_cases h : gj x.kind = true
 · rw [if_pos h]; simp [h]
 · rw [if_neg h]; simp [h]
theorem zj (l : List bk) (x : bk) : vd (l ++ [x]) = if gj x.kind = true then vd l else vd l ++ [gr x] := by
 unfold vd; rw [List.filter_append, List.map_append]
 by_cases h : gj x.kind = true
 · rw [if_pos h]; simp [h]
 · rw [if_neg h]; simp [h]
theorem NdI.len (h : NdI im k mem blk) : mem.length ≤ k ∧ blk.length ≤ k := by
 have hk := h.le
 rw [h.m, h.b]
 unfold oJ vd
 rw [List.length_map, List.length_map]
 have h1 := List.length_filter_le (fun x : bk => gj x.kind) (im.nodes.l.take k)
 have h2 := List.length_filter_le (fun x : bk => !gj x.kind) (im.nodes.l.take k)
 rw [List.length_take] at h1 h2
 omega
theorem NdI.start (im : ax) : NdI im 0 [] [] := ⟨Nat.zero_le _, rfl, rfl, List.nodup_nil⟩
theorem NdI.step (h : NdI im k mem blk) (hx : im.nodes.l[k]? = some x) (hn : keyOf x ∉ (im.nodes.l.take k).map keyOf) : NdI im (k + 1) (if gj x.kind = true then mem ++ [gr x] else mem) (if gj x.kind = true then blk else blk ++ [gr x]) := by
 have ht : im.nodes.l.take (k + 1) = im.nodes.l.take k ++ [x] := by rw [List.take_add_one, hx]; rfl
 refine ⟨(List.getElem?_eq_some_iff.1 hx).1, ?_, ?_, ?_⟩
 · rw [ht, aam, h.m]
 · rw [ht, zj, h.b]
 · rw [ht, List.map_append, List.nodup_append]
   exact ⟨h.nd, by simp, fun a ha b hb e => hn (by rw [List.map_cons, List.map_nil, List.mem_singleton] at hb; rw [hb] at e; exact e ▸ ha)⟩
theorem NdI.dup (hx : im.nodes.l[k]? = some x) (hn : keyOf x ∈ (im.nodes.l.take k).map keyOf) : ¬ (im.nodes.l.map keyOf).Nodup := fun h => by
 have ht : im.nodes.l = im.nodes.l.take k ++ x :: im.nodes.l.drop (k + 1) := by
   obtain ⟨hk, he⟩ := List.getElem?_eq_some_iff.1 hx
   rw [← he, ← List.drop_eq_getElem_cons hk, List.take_append_drop]
 rw [ht, List.map_append, List.nodup_append] at h
 exact h.2.2 _ hn (keyOf x) (by simp) rfl
end
def ub (l : List bE) : Prop := ∀ s ∈ l, (0 ≤ s.at_ ∧ s.at_ ≤ 1048576) ∧ 0 ≤ s.size ∧ s.size ≤ 1048576
theorem zv {im : ax} {x : bk} (h : gW im x = true) : (0 ≤ x.at_ ∧ x.at_ ≤ 1048576) ∧ (0 ≤ x.size ∧ x.size ≤ 1048576) := by
 unfold gW at h
 rw [Bool.and_eq_true, Bool.not_eq_true'] at h
 have := j7 h.1
 exact ⟨this.2.2, this.2.1⟩
theorem sd {im : ax} (h : allI (fun _ x => gW im x) 0 im.nodes.l = true) {p : bk → Bool} {s : bE} (hs : s ∈ (im.nodes.l.filter p).map gr) : (0 ≤ s.at_ ∧ s.at_ ≤ 1048576) ∧ 0 ≤ s.size ∧ s.size ≤ 1048576 := by
 obtain ⟨x, hx, rfl⟩ := List.mem_map.1 hs
 obtain ⟨k, hk⟩ := List.mem_iff_getElem?.1 (List.mem_filter.1 hx).1
 have := zv (gN.1 h k x hk)
 exact this
end Go.Proofs.YtahgkiicjohonaaGreat

namespace Go.Sy
open Go.RowKit Go.Lp Go.Sort Go.Proofs
section
variable {α : Type} [Inhabited α] {enc : α → List Value} {k : Nat}
omit [Inhabited α] in
theorem iL (hk : ∀ x, (enc x).length = k) : ∀ zs : List α, (zs.flatMap enc).length = zs.length * k
 | [] => by simp
 | x :: zs => by rw [List.flatMap_cons, List.length_append, iL hk zs, hk, List.length_cons, Nat.add_mul, Nat.one_mul]; omega
omit [Inhabited α] in
theorem flat_get (hk : ∀ x, (enc x).length = k) : ∀ (zs : List α) (i j : Nat) (x : α), zs[i]? = some x → j < k → (zs.flatMap enc)[i * k + j]? = (enc x)[j]?
 | [], i, j, x, h, _ => by simp at h
 | y :: zs, 0, j, x, h, hj => by
   simp only [List.getElem?_cons_zero, Option.some.injEq] at h
   subst h
   rw [List.flatMap_cons, Nat.zero_mul, Nat.zero_add, List.getElem?_append_left (by rw [hk]; exact hj)]
 | y :: zs, i + 1, j, x, h, hj => by
   rw [List.getElem?_cons_succ] at h
   rw [List.flatMap_cons, List.getElem?_append_right (by rw [hk, Nat.add_mul]; omega), hk, show (i + 1) * k + j - k = i * k + j by rw [Nat.add_mul]; omega]
   exact flat_get hk zs i j x h hj
theorem qx (hk : ∀ x, (enc x).length = k) (d : Array α) : flatK enc k d = (d.toList.flatMap enc).toArray := by
 apply Array.ext'
 apply List.ext_getElem?
 intro t
 show (flatK enc k d).toList[t]? = (d.toList.flatMap enc)[t]?
 by_cases ht : t < d.size * k
 · have k0 : 0 < k := by rcases Nat.eq_zero_or_pos k with h | h
                         · subst h; simp at ht
                         · exact h
   have hd : t / k < d.size := (Nat.div_lt_iff_lt_mul k0).2 ht
   have h1 := flat_get hk d.toList (t / k) (t % k) d[t / k]! (by simp [hd]) (Nat.mod_lt _ k0)
   rw [show t / k * k + t % k = t by rw [Nat.mul_comm]; exact Nat.div_add_mod t k] at h1
   rw [h1, Array.getElem?_toList]
   have h2 := get_flatK enc k d t ht
   have h3 : t % k < (enc d[t / k]!).length := by rw [hk]; exact Nat.mod_lt _ k0
   rw [List.getElem?_eq_getElem h3]
   have hs : t < (flatK enc k d).size := by rw [size_flatK]; exact ht
   rw [Array.getElem?_eq_getElem hs]
   rw [getElem!_pos _ t hs] at h2
   rw [h2, getElem!_pos (enc d[t / k]!) (t % k) h3]
 · rw [List.getElem?_eq_none (by simpa using ht), List.getElem?_eq_none (by rw [iL hk]; simpa using ht)]
abbrev uS (enc : α → List Value) (l : List α) : List (List D) := l.map fun x => (enc x).map D.v
theorem aaz (hk : ∀ x, (enc x).length = k) (k0 : 0 < k) {w : World} {S F : bH} {v : Value} {T : TypeId} {zs : List α} (h : (aN v T k (uS enc zs)).holds w S F) :
   (v = .slice none 0 0 ∧ zs = []) ∨ ∃ b cap sp, v = .slice (some ⟨b, 0, none⟩) zs.length cap ∧ w.heap[b]? = some (.cells (zs.flatMap enc ++ sp).toArray T (0, 0)) ∧ zs.length * k + sp.length = cap * k ∧ zs.length ≤ cap ∧ cap ≤ maxLen ∧ (∀ j, F j ↔ j = b) ∧ HoldsK enc k w b 0 zs.toArray := by
 rcases h with ⟨h1, h2, _⟩ | ⟨b, cap, hv, ⟨cs, sp, hb, hr, hl, hle, hc⟩, hF⟩
 · left; exact ⟨h1, by simpa using h2⟩
 · right
   have hlen := hr.len
   rw [List.length_map] at hlen
   have hcs : cs = zs.flatMap enc := by
     apply List.ext_getElem?
     intro t
     by_cases ht : t < zs.length * k
     · have hd : t / k < zs.length := (Nat.div_lt_iff_lt_mul k0).2 ht
       have hj := Nat.mod_lt t k0
       have hx : zs[t / k]? = some (zs[t / k]'hd) := List.getElem?_eq_getElem hd
       have h1 := flat_get hk zs (t / k) (t % k) _ hx hj
       have h3 : t % k < (enc (zs[t / k]'hd)).length := by rw [hk]; exact hj
       obtain ⟨u, hu, hrep⟩ := hr.rep (t / k) (t % k) ((enc (zs[t / k]'hd)).map D.v) (.v ((enc (zs[t / k]'hd))[t % k]'h3)) (by rw [List.getElem?_map, hx]; rfl) (by rw [List.getElem?_map, List.getElem?_eq_getElem h3]; rfl)
       rw [show t / k * k + t % k = t by rw [Nat.mul_comm]; exact Nat.div_add_mod t k] at h1 hu
       cases hrep
       rw [hu, h1, List.getElem?_eq_getElem h3]
     · rw [List.getElem?_eq_none (by omega), List.getElem?_eq_none (by rw [iL hk]; omega)]
   subst hcs
   refine ⟨b, cap, sp, by rw [hv, List.length_map], hb, by rw [← hl, List.length_append, iL hk], by rwa [List.length_map] at hle, hc, hF, fun j hj => ?_⟩
   rw [qx hk] at hj ⊢
   have hj' : j < (zs.flatMap enc).length := by simpa using hj
   refine ⟨?_, ?_⟩
   · rw [Nat.zero_add, dQ hb, List.getElem?_append_left hj', List.getElem?_eq_getElem hj']
     congr 1
     show _ = (zs.flatMap enc).toArray[j]!
     rw [getElem!_pos (zs.flatMap enc).toArray j (by simpa using hj')]; simp
   · unfold World.frozen?
     rw [hb]
     simp
theorem z8 {P : Program} {ρ : Go.Shelf.Ren} (L : SlLaysF0.n6 P ρ) (k0 : 0 < k) (aE : ∀ w, (isAgg (ρ.t 24)).run P w = .ok true w) (zE : ∀ w, (Go.sizeOf (ρ.t 24)).run P w = .ok k w) (hk : ∀ x, (enc x).length = k) (h1 : ∀ x, ∀ v ∈ enc x, v.oneCell' = true)
   (cf : α → α → Int) (hO : SWO (ltOf cf)) (g : FuncId) (hg : dJ P g = true) (hcmp : ∀ x y, Con P g [.agg (enc x).toArray, .agg (enc y).toArray] [] [] fun r _ _ => r = .int .i64 (cf x y)) {T : TypeId} {v : Value} (zs : List α) (hz : zs.length < 4611686018427387904) :
   Con P (ρ.f 6) [v, .func (.func g) #[] #[]] [] [aN v T k (uS enc zs)] fun _ ps' hp' => ps' = [] ∧ ∃ q : List α, q.Perm zs ∧ (q.Pairwise fun a b => ¬ cf b a < 0) ∧ hp' = [aN v T k (uS enc q)] := fun w S fp hst => by
 have hr := hst.res 0 _ rfl
 rcases aaz hk k0 hr with ⟨e1, e2⟩ | ⟨b, cap, sp, hv, hb, hl, hle, hc, hF, hH⟩
 · subst e1 e2
   refine (AnyF.slices_SortFunc_none L none 0 (.func (.func g) #[] #[]) w).mono fun e w' ⟨he, hw⟩ => ?_
   have hbl : Go.Sy.Below w.heap.size w w' := by rw [hw]; exact .refl _ _
   exact ⟨_, [], _, S, fp, he, ⟨rfl, [], List.Perm.refl _, List.Pairwise.nil, rfl⟩, ⟨(fun p hp => by cases hp), (hst.below hbl).res, (hst.below hbl).lt, hst.dj, (hst.below hbl).slt⟩, Evo.of_below _ _ hbl, fun b hb => .inl hb⟩
 · have hbl := lt_of_heap hb
   have eg : ∀ args w, (callFunc g args).run P w = .ok (.enter g args) w := jC hg
   have hlays : CmpLays P g #[] enc k cf b 0 zs.toArray.size w := fun m os dk _ x y => by
     have hst0 : ∀ W : World, St W (fun _ => False) (fun _ _ => False) [] [] := fun W => ⟨fun p hp => (by cases hp), fun i R hi => (by simp at hi), fun i hi => (by simp at hi), fun i j hi => (by simp at hi), fun b hb => hb.elim⟩
     refine ((hcmp x y).quiet0 (hst0 (sortWorldK enc k w b 0 m dk os))).mono fun e w' ⟨he, hbw⟩ => ⟨he, ?_⟩
     obtain ⟨objs, d, rfl⟩ := mi hbw.kit
     have hd := hbw.drawn
     refine ⟨d - (sortWorldK enc k w b 0 m dk os).drawn, objs, ?_⟩
     unfold World.ext grow World.drewN
     have hd' : (sortWorldK enc k w b 0 m dk os).drawn ≤ d := hd
     simp only [World.mk.injEq, true_and, and_true]
     omega
   have hcall := AnyQ.slices_SortFunc L k aE zE enc hk h1 cf hO g #[] b 0 cap zs.toArray w eg hlays hH hbl (by simpa using hz)
   rw [show zs.toArray.size = zs.length by simp, ← hv] at hcall
   refine hcall.mono fun e w' ⟨he, d', n, os, hp, hs, hw⟩ => ?_
   obtain ⟨p1, _, p3⟩ := hp
   have hsz' : d'.toList.length = zs.length := by simpa using p1
   have hperm : d'.toList.Perm zs := by
     have e1 : (d'.extract 0 zs.length).toList = d'.toList := by
       rw [Array.toList_extract, List.extract_eq_take_drop, List.drop_zero, List.take_of_length_le (by omega)]
     have e2 : (zs.toArray.extract 0 zs.length).toList = zs := by simp
     rw [e1, e2] at p3; exact p3
   have hsort : d'.toList.Pairwise fun a b => ¬ cf b a < 0 := by
     rw [List.pairwise_iff_getElem]
     intro i j hi hj hij
     have hi' : i < d'.size := by simpa using hi
     have hj' : j < d'.size := by simpa using hj
     have := hs i j (Nat.zero_le _) hij (by omega)
     rw [getElem!_pos d' i hi', getElem!_pos d' j hj'] at this
     unfold ltOf at this
     simpa using this
   have hfl : (flatK enc k d') = (d'.toList.flatMap enc).toArray := qx hk d'
   have hlen' : (d'.toList.flatMap enc).length = zs.length * k := by rw [iL hk, hsz']
   have hb' : w'.heap[b]? = some (.cells (d'.toList.flatMap enc ++ sp).toArray T (0, 0)) := by
     rw [hw]
     show ((w.heap.modify b (onCells (putCells id 0 (flatK enc k d')))) ++ os)[b]? = _
     rw [Array.getElem?_append_left (by simpa using hbl), Array.getElem?_modify, if_pos rfl, hb, Option.map_some]
     show some (Obj.cells (putCells id 0 (flatK enc k d') (zs.flatMap enc ++ sp).toArray) T (0, 0)) = _
     rw [hfl, lH id (d'.toList.flatMap enc) (zs.flatMap enc) sp (by rw [hlen', iL hk]), List.map_id]
   have hoth : ∀ j, j < w.heap.size → j ≠ b → w'.heap[j]? = w.heap[j]? := fun j hj hne => by
     rw [hw]
     show ((w.heap.modify b (onCells (putCells id 0 (flatK enc k d')))) ++ os)[j]? = _
     rw [Array.getElem?_append_left (by simpa using hj), Array.getElem?_modify, if_neg (Ne.symm hne)]
   have hsz : w.heap.size ≤ w'.heap.size := by
     rw [hw]
     show _ ≤ ((w.heap.modify b (onCells (putCells id 0 (flatK enc k d')))) ++ os).size
     simp
   have hfb : fp 0 b := (hF b).2 rfl
   refine ⟨_, [], [aN v T k (uS enc d'.toList)], S, fp, he, ⟨rfl, d'.toList, hperm, hsort, rfl⟩, ⟨(fun p hp => by cases hp), fun i R' hi => ?_, fun i hi j hj => ?_, hst.dj, fun j hj => Nat.lt_of_lt_of_le (hst.slt j hj) hsz⟩, ⟨by rw [hw]; rfl, by rw [hw]; rfl, by rw [hw]; rfl, hsz, by rw [hw]; exact Nat.le_add_right _ _, fun j hj hx => hoth j hj fun e => hx ⟨0, by simp, e ▸ hfb⟩, fun _ h => h, fun _ h => .inl h⟩, fun j hj => .inl hj⟩
   · cases i with
     | succ i => simp at hi
     | zero =>
       simp only [List.getElem?_cons_zero, Option.some.injEq] at hi
       subst hi
       refine .inr ⟨b, cap, by rw [List.length_map, hsz', hv], ⟨d'.toList.flatMap enc, sp, hb', ⟨by rw [List.length_map, iL hk], fun i r hi => ?_, fun u hu => ?_, fun i j r d g1 g2 => ?_⟩, by rw [List.length_append, hlen']; exact hl, by rw [List.length_map, hsz']; exact hle, hc⟩, hF⟩
       · rw [List.getElem?_map, Option.map_eq_some_iff] at hi
         obtain ⟨x, _, rfl⟩ := hi; rw [List.length_map, hk]
       · obtain ⟨x, _, hx⟩ := List.mem_flatMap.1 hu; exact h1 x u hx
       · rw [List.getElem?_map, Option.map_eq_some_iff] at g1
         obtain ⟨x, hx, rfl⟩ := g1
         rw [List.getElem?_map, Option.map_eq_some_iff] at g2
         obtain ⟨u, hu, rfl⟩ := g2
         have hj : j < k := by rw [← hk x]; exact (List.getElem?_eq_some_iff.1 hu).1
         exact ⟨u, by rw [flat_get hk _ i j x hx hj]; exact hu, .v u⟩
   · have hi' : i < [aN v T k (uS enc zs)].length := by simpa using hi
     exact ⟨Nat.lt_of_lt_of_le (hst.lt i hi' j hj).1 hsz, (hst.lt i hi' j hj).2⟩
end
def adj (P : Program) (T : TypeId) (i : Nat) : Option Nat := match P.underlying T with
 | some (.struct fs) => (match fs[i]? with
   | some f => if P.plainKey f.type = true then some f.offset else none
   | none => none)
 | _ => none
theorem ab4 {P : Program} {n : Fr} {s : Sta} {d : Option Tmp} {ty : TypeId} {pos : String} {af : Array Edge} {gd : Option (Nat × Bool)} {T : TypeId} {i off : Nat} {x : Operand} {xs : Array Value} {v : Value} (hf : adj P T i = some off) (hx : ev s.env x = some (true, .agg xs)) (hv : xs[off]? = some v) :
   Quiet P n ⟨d, .field T x i, ty, pos, af, gd⟩ s v := fun w S fp a hst he hn => by
 have h1 := he.val hx rfl
 unfold adj at hf
 cases hu : P.underlying T with
 | none => rw [hu] at hf; cases hf
 | some t =>
   rw [hu] at hf
   cases t with
   | struct fs =>
     dsimp only at hf
     cases hi : fs[i]? with
     | none => rw [hi] at hf; cases hf
     | some f =>
       rw [hi] at hf
       dsimp only at hf
       split at hf
       · rename_i hp
         obtain rfl := Option.some.inj hf
         have : (execOp a.eval ⟨d, .field T x i, ty, pos, af, gd⟩).run P w = .ok (.value v) w := by
           unfold execOp; dsimp only; rw [h1]
           show ((Instr.field T (.agg xs) i).bind fun r => Sem.pure (Next.value r)).run P w = _
           have h2 : (Instr.field T (.agg xs) i).run P w = .ok v w := by
             simp only [Instr.field, Sem.run_bind, run_underlying hu, Result.andThen, hi, asAgg, Sem.run_pure]
             exact run_part_plain w hp hv
           rw [Sem.run_bind', h2]; rfl
         rw [this]; exact cg _ _
       · cases hf
   | _ => cases hf
end Go.Sy

namespace Go.Proofs
open Go.Shelf
def Tryz.sortSp_ren : Go.Shelf.Ren := ⟨fun | 6 => 169 | 15 => 194 | 14 => 193 | 28 => 211 | 29 => 212 | 20 => 203 | 21 => 204 | 22 => 205 | 23 => 206 | 24 => 207 | 25 => 208 | 26 => 209 | 27 => 210 | 46 => 225 | 47 => 226 | 48 => 227 | 49 => 228 | 50 => 229 | 57 => 236 | n => n, fun | 22 => 31 | 24 => 161 | 25 => 259 | 3 => 3 | 39 => 212 | 0 => 0 | 53 => 267 | 55 => 222 | 4 => 4 | 46 => 289 | 45 => 288 | 50 => 48 | 5 => 5 | 9 => 9 | 66 => 309 | 70 => 106 | 76 => 326 | 77 => 327 | n => n, fun | n => n⟩
theorem Tryz.sortSp : Go.Proofs.SlLaysF0.n6 Tryz.prog Tryz.sortSp_ren := {
 mixed := by kernel_rfl
 f6 := ⟨Tryz.f169.name, by decide, Tryz.func169.trans (congrArg some (by kernel_rfl))⟩
 f14 := ⟨Tryz.f193.name, by decide, Tryz.func193.trans (congrArg some (by kernel_rfl))⟩
 f15 := Tryz.func194.trans (congrArg some (by kernel_rfl))
 f20 := ⟨Tryz.f203.name, by decide, Tryz.func203.trans (congrArg some (by kernel_rfl))⟩
 f21 := ⟨Tryz.f204.name, by decide, Tryz.func204.trans (congrArg some (by kernel_rfl))⟩
 f22 := ⟨Tryz.f205.name, by decide, Tryz.func205.trans (congrArg some (by kernel_rfl))⟩
 f23 := ⟨Tryz.f206.name, by decide, Tryz.func206.trans (congrArg some (by kernel_rfl))⟩
 f24 := ⟨Tryz.f207.name, by decide, Tryz.func207.trans (congrArg some (by kernel_rfl))⟩
 f25 := ⟨Tryz.f208.name, by decide, Tryz.func208.trans (congrArg some (by kernel_rfl))⟩
 f26 := ⟨Tryz.f209.name, by decide, Tryz.func209.trans (congrArg some (by kernel_rfl))⟩
 f27 := ⟨Tryz.f210.name, by decide, Tryz.func210.trans (congrArg some (by kernel_rfl))⟩
 f28 := Tryz.func211.trans (congrArg some (by kernel_rfl))
 f29 := Tryz.func212.trans (congrArg some (by kernel_rfl))
 f46 := ⟨Tryz.f225.name, by decide, Tryz.func225.trans (congrArg some (by kernel_rfl))⟩
 f47 := Tryz.func226.trans (congrArg some (by kernel_rfl))
 f48 := Tryz.func227.trans (congrArg some (by kernel_rfl))
 f49 := ⟨Tryz.f228.name, by decide, Tryz.func228.trans (congrArg some (by kernel_rfl))⟩
 f50 := ⟨Tryz.f229.name, by decide, Tryz.func229.trans (congrArg some (by kernel_rfl))⟩
 f57 := ⟨Tryz.f236.name, by decide, Tryz.func236.trans (congrArg some (by kernel_rfl))⟩
 t0 := Tryz.underlying0
 a0 := Tryz.isAgg0
 z0 := Tryz.sizeOf0
 v0 := Tryz.zeroValue0
 t3 := Tryz.underlying3
 a3 := Tryz.isAgg3
 z3 := Tryz.sizeOf3
 v3 := Tryz.zeroValue3
 t4 := Tryz.underlying4
 a4 := Tryz.isAgg4
 z4 := Tryz.sizeOf4
 v4 := Tryz.zeroValue4
 t5 := Tryz.underlying5
 a5 := Tryz.isAgg5
 z5 := Tryz.sizeOf5
 v5 := Tryz.zeroValue5
 t9 := Tryz.underlying9
 a9 := Tryz.isAgg9
 z9 := Tryz.sizeOf9
 v9 := Tryz.zeroValue9
 t22 := Tryz.underlying31
 a22 := Tryz.isAgg31
 z22 := Tryz.sizeOf31
 v22 := Tryz.zeroValue31
 t25 := Tryz.underlying259
 a25 := Tryz.isAgg259
 z25 := Tryz.sizeOf259
 v25 := Tryz.zeroValue259
 t39 := Tryz.underlying212
 a39 := Tryz.isAgg212
 z39 := Tryz.sizeOf212
 v39 := Tryz.zeroValue212
 t45 := Tryz.underlying288
 a45 := Tryz.isAgg288
 z45 := Tryz.sizeOf288
 v45 := Tryz.zeroValue288
 t46 := Tryz.underlying289
 a46 := Tryz.isAgg289
 z46 := Tryz.sizeOf289
 v46 := Tryz.zeroValue289
 t50 := Tryz.underlying48
 a50 := Tryz.isAgg48
 z50 := Tryz.sizeOf48
 v50 := Tryz.zeroValue48
 t53 := Tryz.underlying267
 a53 := Tryz.isAgg267
 z53 := Tryz.sizeOf267
 v53 := Tryz.zeroValue267
 t55 := Tryz.underlying222
 a55 := Tryz.isAgg222
 z55 := Tryz.sizeOf222
 v55 := Tryz.zeroValue222
 t66 := Tryz.underlying309
 a66 := Tryz.isAgg309
 z66 := Tryz.sizeOf309
 v66 := Tryz.zeroValue309
 t70 := Tryz.underlying106
 a70 := Tryz.isAgg106
 z70 := Tryz.sizeOf106
 v70 := Tryz.zeroValue106
 t76 := Tryz.underlying326
 a76 := Tryz.isAgg326
 z76 := Tryz.sizeOf326
 v76 := Tryz.zeroValue326
 t77 := Tryz.underlying327
 a77 := Tryz.isAgg327
 z77 := Tryz.sizeOf327
 v77 := Tryz.zeroValue327 }
end Go.Proofs

namespace Go.Proofs.YtahgkiicjohonaaGreat
open Go.RowKit Go.Lp Go.Sy Go.Lv Go.Sort
open Go.Proofs.Tryz
attribute [local irreducible] aL aB awp aC fwp Quiet
def uo (a b : bE) : Int := sU a.at_ b.at_
theorem lO (a b : bE) : ltOf uo a b = decide (a.at_ < b.at_) := by
 unfold ltOf uo
 exact decide_eq_decide.2 (uq _ _)
theorem yQ : SWO (ltOf uo) where
 irrefl x := by rw [lO, decide_eq_false_iff_not]; omega
 trans x y z h1 h2 := by rw [lO, decide_eq_true_eq] at *; omega
 ntrans x y z h1 h2 := by
   rw [lO, decide_eq_false_iff_not] at *
   omega
theorem xe (a b : bE) : Con Tryz.prog 170 [a.val, b.val] [] [] fun r _ _ => r = .int .i64 (uo a b) := by
 refine EN2 Tryz.func170 rfl (aSR (LT rfl (cx rfl rfl rfl (fun b0_0 => (aHN ?_)))))
 refine LT rfl (cx rfl rfl rfl (fun b0_1 => (aHN ?_)))
 refine aA rfl (aNn (aSR (UO 0 rfl rfl (UL 0 tk3 rfl rfl rfl rfl (UO 0 rfl rfl (UL 1 tk3 rfl rfl rfl rfl (aU rfl (Q0 rfl (u6 _ _)) (aA rfl (aNn (az (FZ1 [] Tryz.results170 rfl ?_)))))))))))
 rfl
theorem w6 (v : Value) (zs : List bE) (hz : zs.length ≤ 1000000) : Con Tryz.prog 169 [v, .func (.func 170) #[] #[]] [] [aN v 161 2 (zs.map bE.row)]
   fun _ ps hp => ps = [] ∧ ∃ q : List bE, q.Perm zs ∧ (q.Pairwise fun a b => ¬ sU b.at_ a.at_ < 0) ∧ hp = [aN v 161 2 (q.map bE.row)] :=
 z8 (enc := bE.vs) Tryz.sortSp (by decide) Tryz.isAgg161 Tryz.sizeOf161 (fun _ => rfl) (fun x v hv => by simp at hv; rcases hv with rfl | rfl <;> rfl) uo yQ 170 (by kernel_rfl) (fun x y => xe x y) (T := 161) (v := v) zs (by omega)
theorem wH (b : Nat) (q : Sl bE) (hf : ub q.l) (hql : q.l.length ≤ 1000000) (i : Nat) (a : bE) (ha : q.l[i]? = some a) : Con Tryz.prog 172 [.int .i64 i, a.val, .pointer (some ⟨b, 0, none⟩)] [cD (At b 0 [.v (.slice q.ad q.l.length q.cap)]) (ShF bE.row q)] [] fun r _ _ => r = .bool (abL q.l i a) := by
 have hil := (List.getElem?_eq_some_iff.1 ha).1
 refine EN3 Tryz.func172 rfl (aSR (LT rfl (cx rfl rfl rfl (fun b0_0 => (aHN ?_)))))
 refine aA rfl (aNs (DR [] 21 (VM 0 rfl rfl (bV 1 rfl rfl (ck rfl rfl) (VM 2 rfl rfl (bW 3 rfl rfl rfl (fun hc => bj (o := 0) tk31 rfl (Ent.left (.of (aD 0 rfl))) rfl) (bW 4 rfl rfl rfl (fun hc => aP rfl) ?_)))))))
 refine bW 5 rfl rfl rfl (fun hc => cU (ae rfl hc) rfl (by (first | omega | (simp at hc; omega)))) ?_
 refine q8 6 rfl (by kernel_rfl) _ rfl rfl (fun hc => bF Tryz.underlying31 tk161 (ae rfl hc) ((Ent.right (.of (aD 0 rfl)))) (ae rfl hc) (fq (i := (i : Int) - 1) (by omega) (by simp at hc; omega)) ((Int.toNat_of_nonneg (by simp at hc; omega)).symm) rfl) (fun _ => ⟨(0, 0)⟩) (fun ⟨b1_6, o1_6⟩ => ?_)
 refine bW 7 rfl rfl rfl (fun hc => qFA (off := 0) (ae rfl hc)) (bW 8 rfl rfl rfl (fun hc => fV (o := 0) tk3 (ae rfl hc) (aD 0 rfl) hc rfl) (bW 9 rfl rfl rfl (fun hc => bj (o := 0) tk31 rfl (Ent.left (.of (aD 1 rfl))) rfl) (bW 10 rfl rfl rfl (fun hc => aP rfl) ?_)))
 refine bW 11 rfl rfl rfl (fun hc => cU (ae rfl hc) rfl (by (first | omega | (simp at hc; omega)))) ?_
 refine q8 12 rfl (by kernel_rfl) _ rfl rfl (fun hc => bF Tryz.underlying31 tk161 (ae rfl hc) ((Ent.right (.of (aD 1 rfl)))) (ae rfl hc) (fq (i := (i : Int) - 1) (by omega) (by simp at hc; omega)) ((Int.toNat_of_nonneg (by simp at hc; omega)).symm) rfl) (fun _ => ⟨(0, 0)⟩) (fun ⟨b1_12, o1_12⟩ => ?_)
 refine bW 13 rfl rfl rfl (fun hc => qFA (off := 1) (ae rfl hc)) (bW 14 rfl rfl rfl (fun hc => fV (o := 1) tk3 (ae rfl hc) (aD 0 rfl) hc rfl) ?_)
 refine bW 15 rfl rfl rfl (fun hc => aX (ae rfl hc) (ae rfl hc) (by (have h9 := hf (elt q.l ((i : Int) - 1)) (List.mem_of_getElem? (j6 (by omega) (by simp at hc; omega))); omega))) ?_
 refine bW 16 rfl rfl rfl (fun hc => qFA (off := 0) rfl) (bW 17 rfl rfl rfl (fun hc => bC 0 tk3 (ae rfl hc) rfl rfl) (bW 18 rfl rfl rfl (fun hc => eF (ae rfl hc) (ae rfl hc)) (bV 19 rfl rfl (cK rfl rfl (fun h => gf rfl h)) (bV 20 rfl rfl (bw rfl) (BN (an (az (FZ1 [] Tryz.results172 rfl ?_))))))))
 rfl
theorem rn (l : Sl bE) (hl : l.l.length ≤ 1000000) (hf : ub l.l) : Con Tryz.prog 97 [l.val] [ShF bE.row l] [] fun r _ _ => r = .bool (qd l.l) := by
 have hfl : (l.l.filter eS).length ≤ 1000000 := Nat.le_trans (List.length_filter_le _ _) hl
 refine EN1 Tryz.func97 rfl (aSR (LT rfl (abg ([.slice l.ad l.l.length l.cap]) rfl rfl rfl (fun b0_0 => (aHN ?_)))))
 refine aA rfl (aNn (aSR (UL 0 tk31 rfl rfl rfl rfl (LT rfl (EC [0] [] rfl (vB l hl) ?_)))))
 rintro _ _ _ ⟨rfl, ad1, c1, rfl, rfl⟩
 refine aST ?_
 refine LF rfl (EC [] [1] rfl ((zG _ l.l hl).know (φ := fun r => ∃ ad cp, r = .slice ad (l.l.filter eS).length cp) (fun v ps' hp' w S fp ⟨_, h2⟩ hst => by subst h2; have := fL (hst.res 0 _ rfl); rwa [List.length_map] at this)) ?_)
 rintro _ _ _ ⟨⟨rfl, rfl⟩, ad2, c2, rfl⟩
 refine aST ?_
 refine aT rfl (bg 0 tk31 rfl rfl rfl rfl (aHK ?_))
 refine aNn (aSR (UL 0 tk31 rfl rfl rfl rfl (LF rfl (EC [] [1] rfl (w6 _ _ hfl) ?_))))
 rintro _ _ _ ⟨rfl, q, hqp, hqs, rfl⟩
 refine aST ?_
 refine aNs ?_
 rw [← hqp.length_eq]
 refine dW 1 rfl ?_
 have hqf : ub q := fun s hs => hf s (List.mem_filter.1 (hqp.mem_iff.1 hs)).1
 refine bR 0 rfl rfl ?_
 show awp _ _ _ _ ⟨_, At _ 0 _ :: _, _⟩
 refine aa (UD 0 tk31 0 rfl rfl rfl rfl (aU rfl (cq (l := [.tmp 1]) rfl) ?_))
 refine aU rfl (QC rfl (fun w S fp hst => (((q7 ⟨ad2, c2, q⟩ 172 [.pointer (some ⟨b0_0, 0, none⟩)] (cD (At b0_0 0 [.v (.slice ad2 q.length c2)]) (ShF bE.row ⟨ad2, c2, q⟩)) (fun i a => abL q i a) (by kernel_rfl) (fun i a ha => wH b0_0 ⟨ad2, c2, q⟩ hqf (by have := hqp.length_eq; dsimp only; omega) i a ha)).post (fun _ _ _ h => h.2.2)).pre2 (ps := [At b0_0 0 [.v (.slice ad2 q.length c2)], ShF bE.row ⟨ad2, c2, q⟩]) (.of (aD 1 rfl)) (Ent.mk2 (.of (aD 0 rfl)) (.of (aD 1 rfl)))).quiet2 (aD 0 rfl) (aD 1 rfl) hst)) ?_
 refine aA rfl (aNn (az (FZ1 [] Tryz.results97 rfl ?_)))
 exact congrArg Value.bool (tV hqp hqs)
end Go.Proofs.YtahgkiicjohonaaGreat

namespace Go.Proofs.YtahgkiicjohonaaGreat
open Go.RowKit Go.Lp Go.Sy Go.Lv
open Go.Proofs.Tryz
attribute [local irreducible] aL aB awp aC fwp Quiet
theorem kyP : gV Tryz.prog 171 dG := y8 Tryz.underlying171 rfl (by kernel_rfl) Tryz.underlying9
theorem vX (im : ax) (b i : Nat) (x : bk) (hx : im.nodes.l[i]? = some x) : Con Tryz.prog 94 [.int .i64 i, x.val, .pointer (some ⟨b, 0, none⟩)] [cD (At b 0 im.row) im.ok] [] fun r _ _ => r = .bool (gW im x) := by
 refine EN3 Tryz.func94 rfl (fl (bk.f_sec (Ent.all (f := bk.ok) (ax.f_nodesA (Ent.right (.of (aD 0 rfl)))) hx)) (fun hs => (fl (bk.f_obj (Ent.all (f := bk.ok) (ax.f_nodesA (Ent.right (.of (aD 0 rfl)))) hx)) (fun ho => (aSR (LT rfl (cx rfl rfl rfl (fun b0_0 => (aHN ?_)))))))))
 refine aA rfl (aNn (aSR (aU rfl (bj (o := 0) tk39 rfl (Ent.left (.of (aD 0 rfl))) rfl) (UL 0 tk51 rfl rfl rfl rfl (aU rfl (Q0 rfl (zQ im x hs ho)) (aA rfl (aNn (az (FZ1 [] Tryz.results94 rfl ?_)))))))))
 rfl
theorem za (im : ax) (hS : eY im) : Con Tryz.prog 41 [im.val] [im.ok] [] fun r _ _ => r = .bool (iM im) := by
 have hc0 := hS.c0
 have hcd := hS.cd
 have hdz := hS.dz
 have hzm := hS.zm
 refine EN1 Tryz.func41 rfl (aSR (LT rfl (cx rfl rfl rfl (fun b0_0 => (aHN ?_)))))
 refine aA rfl (aNs (aj (bR 0 rfl rfl ?_)))
 show awp _ _ _ _ ⟨_, At _ 0 _ :: _, _⟩
 refine aa (UO 8 rfl rfl (UD 8 tk22 0 rfl rfl rfl rfl (aU rfl (aW Tryz.underlying22 rfl) (aU rfl (cJ rfl rfl) (aM rfl (GO 12 rfl rfl rfl (aG rfl rfl (fun hc => bj (o := 12) tk25 (ae rfl hc) (.of (aD 0 rfl)) rfl) (aG rfl rfl (fun hc => aW Tryz.underlying25 (ae rfl hc)) (aG rfl rfl (fun hc => cJ (ae rfl hc) rfl) (aU rfl (cK rfl rfl (fun h => gf rfl h)) (aM rfl (GO 8 rfl rfl rfl (aG rfl rfl (fun hc => bj (o := 8) tk22 (ae rfl hc) (.of (aD 0 rfl)) rfl) (aG rfl rfl (fun hc => cq (l := [.tmp 1]) rfl) (aG rfl rfl (fun hc => QC (aJ (ae rfl hc) (aJ (ae rfl hc) rfl)) (fun w S fp hst => (((oA im.nodes 94 [.pointer (some ⟨b0_0, 0, none⟩)] (cD (At b0_0 0 im.row) im.ok) (fun _ x => gW im x) (by kernel_rfl) (fun i x hx => vX im b0_0 i x hx)).post (fun _ _ _ h => h.2.2)).pre2 (ps := [At b0_0 0 im.row, im.ok]) (ax.f_nodes (.of (aD 1 rfl))) (Ent.mk2 (.of (aD 0 rfl)) (.of (aD 1 rfl)))).quiet2 (aD 0 rfl) (aD 1 rfl) hst)) ?_)))))))))))))))
 refine aG rfl rfl (fun hc => dp (ae rfl hc)) (aU rfl (cK rfl rfl (fun h => gf rfl h)) (aNn ?_))
 refine ao _ rfl (fun h1 => ?_) (fun h1 => ?_)
 ·skip
  have hh : kV im = true := h1
  refine aSR (aA rfl (aNn (az (bu (FZ1 [] Tryz.results41 rfl ?_)))))
  unfold iM; rw [hh]; rfl
 ·skip
  have hh : kV im = false := h1
  have hh2 : (im.nodes.l.length ≤ 4096 ∧ im.stubs.l.length ≤ 4096) ∧ allI (fun _ x => gW im x) 0 im.nodes.l = true := by
    unfold kV at hh
    simp only [Bool.or_eq_false_iff, Bool.not_eq_false', decide_eq_false_iff_not] at hh
    exact ⟨⟨by omega, by omega⟩, hh.2⟩
  obtain ⟨⟨hnl, hsl⟩, hall⟩ := hh2
  refine ar (an (aSR (aA rfl (aA rfl (aNs (eH 161 2 (eH 161 2 ?_)))))))
  show awp _ _ _ _ ⟨_, _, [_, _, _]⟩
  refine aa (LT rfl (fQ (dG) (vBo) rfl (fun b4_0 => (aHN ?_))))
  refine aA rfl (aNs (aSR (UO 8 rfl rfl (UD 8 tk22 0 rfl rfl rfl rfl (aU rfl (aW Tryz.underlying22 rfl) (aM rfl (aNn (aq ?_))))))))
  refine aQ [1, 3, 4, 5, 31, 32, 33] [1, 0] [1, 2, 3] (fun (q : (Nat × (Value × Value)) × (List bE × List bE)) st => NdI im q.1.1 q.2.1 q.2.2 ∧ st = ⟨[(1, true, .pointer (some ⟨b0_0, 0, none⟩)), (3, true, q.1.2.1), (4, true, q.1.2.2), (5, true, .map (some b4_0)), (31, true, im.nodes.val), (32, true, .int .i64 im.nodes.l.length), (33, true, .int .i64 q.1.1)], [At b0_0 0 im.row, im.ok], [aN q.1.2.1 161 2 (q.2.1.map bE.row), aN q.1.2.2 161 2 (q.2.2.map bE.row), ft b4_0 dG vBo (fc ((im.nodes.l.take q.1.1).map keyOf))]⟩) (fun q => im.nodes.l.length - q.1.1) rfl (⟨((0, (.slice none 0 0, .slice none 0 0)), ([], [])), NdI.start im, by show _ = (⟨_, _, [_, _, ft b4_0 dG vBo (fc [])]⟩ : Sta); rw [← p6]; rfl⟩) ?_
  rintro ⟨⟨k, mv, bv⟩, mem, blk⟩ st ⟨hI, rfl⟩
  dsimp only at hI ⊢
  have hil := hI.len
  have hile := hI.le
  refine aSR (aU rfl (bD rfl rfl) (aNs ?_))
  refine ao _ rfl (fun h2 => ?_) (fun h2 => ?_)
  ·skip
   have hk' : k < im.nodes.l.length := by simpa using h2
   obtain ⟨x, hx⟩ : ∃ x, im.nodes.l[k]? = some x := ⟨_, List.getElem?_eq_getElem hk'⟩
   have ht1 : (im.nodes.l.take (k + 1)).map keyOf = (im.nodes.l.take k).map keyOf ++ [keyOf x] := by rw [List.take_add_one, hx, List.map_append]; rfl
   refine ar (an (aj (aq (aSR (iD true rfl rfl (fun _ => bF Tryz.underlying22 tk51 rfl ((ax.f_nodes (.of (aD 1 rfl)))) rfl (aI hx) rfl rfl) (fun h => absurd h (by decide)) (fun ⟨b7_0, o7_0⟩ => (US 0 tk51 0 rfl rfl rfl rfl rfl (LT rfl (bI (zs := [.string .empty, .string .empty, .int .i64 0, .int .i64 0, .int .i64 0, .string .empty, .string .empty]) (by kernel_rfl) rfl (fun b7_2 => (aHN ?_)))))))))))
   refine aT rfl (bg 3 tk51 rfl rfl rfl rfl (aHK ?_))
   refine aNn (aSR (UO 0 rfl rfl (UL 3 tk9 rfl rfl rfl rfl (UO 1 rfl rfl (UL 3 tk9 rfl rfl rfl rfl (aU rfl (l3 (l := [(0, .tmp 38), (1, .tmp 40)]) (zs := [.string .empty, .string .empty]) (sz := 1) (m := 2) (by kernel_rfl) (by kernel_rfl) rfl rfl rfl) (LT rfl (bI (zs := [.string .empty, .string .empty]) (by kernel_rfl) rfl (fun b8_5 => (aHN ?_))))))))))
   refine aT rfl (bg 4 tk171 rfl rfl rfl rfl (aHK ?_))
   refine aNs (aSR (aM rfl (UL 4 tk171 rfl rfl rfl rfl (aU rfl (l4 (k := (x.obj, x.sec)) (v0 := false) 2 Tryz.underlying170 (kyP) (by kernel_rfl) rfl rfl rfl) (aNn ?_)))))
   refine ao _ rfl (fun h3 => ?_) (fun h3 => ?_)
   ·skip
    have hdup : keyOf x ∈ (im.nodes.l.take k).map keyOf := ya.1 h3
    refine aSR (aA rfl (aNn (az (bu (cM (bu (bu (cM (bu (FZ1 [] Tryz.results41 rfl (congrArg Value.bool (Eq.symm ?_))))))))))))
    unfold iM
    rw [decide_eq_false (NdI.dup hx hdup), Bool.false_and, Bool.and_false]
   ·skip
    have hdup : keyOf x ∉ (im.nodes.l.take k).map keyOf := fun hm => by rw [ya.2 hm] at h3; cases h3
    have hst1 := hI.step hx hdup
    refine ar (an (aSR (aM rfl (UL 4 tk171 rfl rfl rfl rfl (aT rfl (eN (k := (x.obj, x.sec)) (v := true) 2 Tryz.underlying170 (kyP) rfl rfl rfl rfl (aHK ?_)))))))
    refine aNn (aSR (UO 3 rfl rfl (UL 3 tk3 rfl rfl rfl rfl (UO 4 rfl rfl (UL 3 tk3 rfl rfl rfl rfl (aU rfl (fZ (l := [(0, .tmp 48), (1, .tmp 50)]) (zs := [.int .i64 0, .int .i64 0]) (pl := [(0, 1), (1, 1)]) (by kernel_rfl) (by kernel_rfl) (by kernel_rfl) rfl rfl rfl) (LT rfl (bI (zs := [.int .i64 0, .int .i64 0]) (by kernel_rfl) rfl (fun b12_5 => (aHN ?_))))))))))
    refine aT rfl (bg 5 tk161 rfl rfl rfl rfl (aHK ?_))
    refine aNn (aSR (UO 2 rfl rfl (UL 3 tk3 rfl rfl rfl rfl (aU rfl (Q0 rfl (rC _)) (aNn ?_)))))
    refine ao _ rfl (fun h4 => ?_) (fun h4 => ?_)
    ·skip
     rw [if_pos h4, if_pos h4] at hst1
     refine aa (aM rfl (UL 5 tk161 rfl rfl rfl rfl (LT rfl (WL (zs := [.int .i64 0, .int .i64 0]) el31 rfl rfl rfl (.more rfl (.v rfl (.v rfl .nil)) .nil) rfl rfl (fun v14_2 => (aHN ?_))))))
     refine aT rfl (cT 0 el31 rfl rfl rfl rfl (ea 6 el31 rfl (by simp)) (by first | assumption | simp) (by rw [List.length_map]; show mem.length + 1 ≤ _; omega) (mem.length + 1) (by rw [List.length_map]; rfl) (fun v14_3 c14_3 => ?_))
     refine aHK ?_
     refine aA rfl (bS (bA (an (aa (aU rfl (aX rfl rfl (by omega)) (aM rfl (aNn ?_)))))))
     refine ⟨[1, 3, 4, 5, 31, 32, 33], [1, 0], [0, 1, 2], rfl, ?_⟩
     refine ⟨((k + 1, (.slice v14_3 (mem.length + 1) c14_3, bv)), (mem ++ [gr x], blk)), ⟨hst1, ?_⟩, by dsimp only; omega⟩
     show _ = (⟨_, _, [aN (.slice v14_3 (mem.length + 1) c14_3) 161 2 ((mem ++ [gr x]).map bE.row), _, ft b4_0 dG vBo (fc ((im.nodes.l.take (k + 1)).map keyOf))]⟩ : Sta)
     rw [ht1, gJ, List.map_append]; rfl
    ·skip
     rw [if_neg (by rw [h4]; decide), if_neg (by rw [h4]; decide)] at hst1
     refine aa (aM rfl (UL 5 tk161 rfl rfl rfl rfl (LT rfl (WL (zs := [.int .i64 0, .int .i64 0]) el31 rfl rfl rfl (.more rfl (.v rfl (.v rfl .nil)) .nil) rfl rfl (fun v15_2 => (aHN ?_))))))
     refine aT rfl (cT 1 el31 rfl rfl rfl rfl (ea 6 el31 rfl (by simp)) (by first | assumption | simp) (by rw [List.length_map]; show blk.length + 1 ≤ _; omega) (blk.length + 1) (by rw [List.length_map]; rfl) (fun v15_3 c15_3 => ?_))
     refine aHK ?_
     refine aA rfl (bS (bA (an (aa (aU rfl (aX rfl rfl (by omega)) (aM rfl (aNn ?_)))))))
     refine ⟨[1, 3, 4, 5, 31, 32, 33], [1, 0], [0, 1, 2], rfl, ?_⟩
     refine ⟨((k + 1, (mv, .slice v15_3 (blk.length + 1) c15_3)), (mem, blk ++ [gr x])), ⟨hst1, ?_⟩, by dsimp only; omega⟩
     show _ = (⟨_, _, [_, aN (.slice v15_3 (blk.length + 1) c15_3) 161 2 ((blk ++ [gr x]).map bE.row), ft b4_0 dG vBo (fc ((im.nodes.l.take (k + 1)).map keyOf))]⟩ : Sta)
     rw [ht1, gJ, List.map_append]; rfl
  ·skip
   have hkn : k = im.nodes.l.length := by simp at h2; omega
   have hmN : mem = oJ im.nodes.l := by have := hI.m; rwa [hkn, List.take_length] at this
   have hbN : blk = vd im.nodes.l := by have := hI.b; rwa [hkn, List.take_length] at this
   have hnd : (im.nodes.l.map keyOf).Nodup := by have := hI.nd; rwa [hkn, List.take_length] at this
   refine aR (aS (aS (aZ (an (aj (aSR (UO 12 rfl rfl (UD 12 tk25 0 rfl rfl rfl rfl (aU rfl (aW Tryz.underlying25 rfl) (aM rfl (aNn (aq ?_))))))))))))
   refine aQ [1, 3, 4, 65, 66, 67] [1, 0] [0, 1] (fun (q : Nat × (Value × List bE)) st => (q.1 ≤ im.stubs.l.length ∧ q.2.2 = oJ im.nodes.l ++ (im.stubs.l.take q.1).map sf ∧ ∀ i s, i < q.1 → im.stubs.l[i]? = some s → kx im i s = true) ∧ st = ⟨[(1, true, .pointer (some ⟨b0_0, 0, none⟩)), (3, true, q.2.1), (4, true, bv), (65, true, im.stubs.val), (66, true, .int .i64 im.stubs.l.length), (67, true, .int .i64 q.1)], [At b0_0 0 im.row, im.ok], [aN q.2.1 161 2 (q.2.2.map bE.row), aN bv 161 2 (blk.map bE.row)]⟩) (fun q => im.stubs.l.length - q.1) rfl (⟨(0, (mv, mem)), ⟨Nat.zero_le _, by simp [hmN], fun i s h => absurd h (Nat.not_lt_zero _)⟩, rfl⟩) ?_
   rintro ⟨j, mv2, mem2⟩ st ⟨⟨hj, hm2, hpre⟩, rfl⟩
   dsimp only at hj hm2 hpre ⊢
   have hm2l : mem2.length ≤ 8192 := by rw [hm2, ← hmN, List.length_append, List.length_map, List.length_take]; omega
   refine aSR (aU rfl (bD rfl rfl) (aNs ?_))
   refine ao _ rfl (fun h5 => ?_) (fun h5 => ?_)
   ·skip
    have hj' : j < im.stubs.l.length := by simpa using h5
    obtain ⟨s, hs⟩ : ∃ s, im.stubs.l[j]? = some s := ⟨_, List.getElem?_eq_getElem hj'⟩
    refine ar (an (aj (aq (aSR (aM rfl (iD true rfl rfl (fun _ => bF Tryz.underlying25 tk3 rfl ((ax.f_stubs (.of (aD 1 rfl)))) rfl (aI hs) rfl rfl) (fun h => absurd h (by decide)) (fun ⟨b19_1, o19_1⟩ => (US 0 tk3 0 rfl rfl rfl rfl rfl (aA rfl (aA rfl (aNs (aSR (UD 0 tk39 1 rfl rfl rfl rfl (aM rfl (aU rfl (Q0 rfl (con_instr im ⟨hc0, by omega⟩ s)) ?_)))))))))))))))
    refine aU rfl (dp rfl) (aM rfl (aG rfl rfl (fun hc => aP rfl) (aG rfl rfl (fun hc => cJ (ae rfl hc) rfl) (aG rfl rfl (fun hc => aP (ae rfl hc)) (GO 12 rfl rfl rfl (aG rfl rfl (fun hc => bj (o := 12) tk25 (ae rfl hc) (.of (aD 1 rfl)) rfl) (aG rfl rfl (fun hc => aP rfl) ?_)))))))
    refine aG rfl rfl (fun hc => cU (ae rfl hc) rfl (by (first | omega | (simp at hc; omega)))) ?_
    refine iD _ rfl rfl (fun hc => bF Tryz.underlying25 tk3 (ae rfl hc) ((ax.f_stubs (.of (aD 2 rfl)))) (ae rfl hc) (fq (i := (j : Int) - 1) (by omega) (by simp at hc; omega)) ((Int.toNat_of_nonneg (by simp at hc; omega)).symm) rfl) (fun _ => ⟨(0, 0)⟩) (fun ⟨b20_12, o20_12⟩ => ?_)
    refine aG rfl rfl (fun hc => fV (o := 0) tk3 (ae rfl hc) (aD 0 rfl) hc rfl) (aG rfl rfl (fun hc => aP rfl) (aG rfl rfl (fun hc => fk (ae rfl hc) (ae rfl hc)) (aG rfl rfl (fun hc => bp (ae rfl hc) rfl (fun h => gt hc h)) (aU rfl (cK rfl rfl (fun h => gf rfl h)) (aNn ?_)))))
    refine ao _ rfl (fun h6 => ?_) (fun h6 => ?_)
    ·skip
     have hsb : kx im j s = false := by unfold kx; rw [Bool.not_eq_false']; exact h6
     refine aSR (aA rfl (aNn (az (bu (cM (bu (bu (cM (bu (FZ1 [] Tryz.results41 rfl (congrArg Value.bool (Eq.symm ?_))))))))))))
     have hf : allI (kx im) 0 im.stubs.l = false := by
       cases h : allI (kx im) 0 im.stubs.l with
       | false => rfl
       | true => have := gN.1 h j s hs; rw [Nat.zero_add, hsb] at this; cases this
     unfold iM
     rw [hf, Bool.false_and, Bool.and_false, Bool.and_false]
    ·skip
     have hsb : kx im j s = true := by unfold kx; rw [Bool.not_eq_true']; exact h6
     refine ar (an (aa (aM rfl (aM rfl (aU rfl (fZ (l := [(0, .tmp 91), (1, .const (.int .i64 8))]) (zs := [.int .i64 0, .int .i64 0]) (pl := [(0, 1), (1, 1)]) (by kernel_rfl) (by kernel_rfl) (by kernel_rfl) rfl rfl rfl) (LT rfl (WL (zs := [.int .i64 0, .int .i64 0]) el31 rfl rfl rfl (.more rfl (.v rfl (.v rfl .nil)) .nil) rfl rfl (fun v22_3 => (aHN ?_)))))))))
     refine aT rfl (cT 0 el31 rfl rfl rfl rfl (ea 2 el31 rfl (by simp)) (by first | assumption | simp) (by rw [List.length_map]; show mem2.length + 1 ≤ _; omega) (mem2.length + 1) (by rw [List.length_map]; rfl) (fun v22_4 c22_4 => ?_))
     refine aHK ?_
     refine aA rfl (bS (bA (an (aa (aU rfl (aX rfl rfl (by omega)) (aM rfl (aNn ?_)))))))
     refine ⟨[1, 3, 4, 65, 66, 67], [1, 0], [0, 1], rfl, ?_⟩
     refine ⟨(j + 1, (.slice v22_4 (mem2.length + 1) c22_4, mem2 ++ [sf s])), ⟨⟨hj', ?_, fun i t hi ht => ?_⟩, ?_⟩, by dsimp only; omega⟩
     · dsimp only; rw [hm2, List.append_assoc, List.take_add_one, hs, List.map_append]; rfl
     · rcases Nat.lt_or_ge i j with h | h
       · exact hpre i t h ht
       · obtain rfl : i = j := by dsimp only at hi; omega
         rw [hs] at ht; obtain rfl := Option.some.inj ht; exact hsb
     · show _ = (⟨_, _, [aN (.slice v22_4 (mem2.length + 1) c22_4) 161 2 ((mem2 ++ [sf s]).map bE.row), _]⟩ : Sta)
       rw [List.map_append]; rfl
   ·skip
    have hjn : j = im.stubs.l.length := by simp at h5; omega
    have hstubs : allI (kx im) 0 im.stubs.l = true := gN.2 fun i t ht => by rw [Nat.zero_add]; exact hpre i t (by rw [hjn]; exact (List.getElem?_eq_some_iff.1 ht).1) ht
    have hm3 : mem2 = oJ im.nodes.l ++ im.stubs.l.map sf := by rw [hm2, hjn, List.take_length]
    have hfM : ub mem2 := fun t ht => by
      rw [hm3] at ht
      rcases List.mem_append.1 ht with h | h
      · exact sd hall h
      · obtain ⟨z, hz, rfl⟩ := List.mem_map.1 h
        obtain ⟨i, hi⟩ := List.mem_iff_getElem?.1 hz
        have := gN.1 hstubs i z hi
        unfold kx instrB at this
        simp only [Bool.not_eq_true', Bool.or_eq_false_iff, Bool.not_eq_false', Bool.and_eq_true, mj] at this
        have h9 := this.1.1
        exact ⟨⟨h9.1, by show z ≤ _; omega⟩, by show 0 ≤ (8 : Int) ∧ (8 : Int) ≤ 1048576; decide⟩
    have hfB : ub blk := fun t ht => by rw [hbN] at ht; exact sd hall ht
    refine aR (aS (aS (aZ (an (aj (fE 0 rfl (fun w S F hh => fL hh) (fun hov => ?_)))))))
    obtain ⟨mad, mcp, rfl⟩ := hov
    refine fE 1 rfl (fun w S F hh => fL hh) (fun hov => ?_)
    obtain ⟨bad, bcp, rfl⟩ := hov
    rw [List.length_map, List.length_map]
    refine dW 0 rfl (dW 1 rfl (aa (aM rfl ?_)))
    refine aU rfl (Q1 rfl (rn ⟨mad, mcp, mem2⟩ (by dsimp only; omega) hfM) 1 rfl) ?_
    refine aM rfl (aG rfl rfl (fun hc => aP rfl) ?_)
    refine aG rfl rfl (fun hc => Q1 (aJ (ae rfl hc) rfl) (rn ⟨bad, bcp, blk⟩ (by dsimp only; omega) hfB) 0 rfl) ?_
    refine aU rfl (bp rfl rfl (fun h => gt rfl h)) (aA rfl (aNn (az (FZ1 [] Tryz.results41 rfl (congrArg Value.bool ?_)))))
    unfold iM
    rw [hh, decide_eq_true hnd, hstubs, ← hm3, ← hbN]; rfl
end Go.Proofs.YtahgkiicjohonaaGreat

namespace Go.Proofs.YtahgkiicjohonaaGreat
open Go.RowKit Go.Lp Go.Sy Go.Lv
def yg (im : ax) (x : bN) : Int := if x.kind = 2 then im.block else im.zero
def aeH (y x : bN) : Int := if wb y.name x.name ≠ 0 then wb y.name x.name else wb y.version x.version
def kr (im : ax) (i : Nat) (x : bN) : Bool := decide ((i : Int) > 0) && decide (aeH (elt im.exports.l ((i : Int) - 1)) x ≥ 0)
def oV (x : bN) : Bool := x.main || decide (x.version = ⟨#[]⟩)
def aev (im : ax) (x : bN) : Bool := (((eQ x.name && mN x.version) && ic x.kind 0 2) && decide (x.size ≥ 0)) && ic x.at_ 0 (yg im x)
def wz (im : ax) (s : List ByteArray) (i : Nat) (x : bN) : Bool × List ByteArray :=
 if kr im i x = true then (false, s) else if oV x = true then (if (fc s x.name).getD false = true then (false, s) else (aev im x, s ++ [x.name])) else (aev im x, s)
def qq (im : ax) : Bool := decide ((im.exports.l.length : Int) ≤ 4096) && (fJ (wz im) [] 0 im.exports.l).1
abbrev aed (x : bY) : ByteArray × ByteArray := (x.name, x.version)
abbrev mC (im : ax) (i : Nat) : Int := elt im.slots.l (i : Int)
def wW (im : ax) (st : List (ByteArray × ByteArray) × List Int) (i : Nat) (x : bY) : Bool :=
 (fc st.1 (aed x)).getD false || ((!decide (mC im i = -1)) && (((fc st.2 (mC im i)).getD false || !ic (mC im i) im.code (im.data - 8)) || !decide ((mC im i).tmod 8 = 0)))
def aez (x : bY) : Bool := (eQ x.name && mN x.version) && ic x.kind 0 2
def wN (im : ax) (st : List (ByteArray × ByteArray) × List Int) (i : Nat) (x : bY) : Bool × (List (ByteArray × ByteArray) × List Int) :=
 if wW im st i x = true then (false, st) else (aez x, (st.1 ++ [aed x], st.2 ++ [mC im i]))
def uZ (im : ax) : Bool := decide ((im.imports.l.length : Int) > 4096) || !decide ((im.slots.l.length : Int) = im.imports.l.length)
def gQ (im : ax) : Bool := if uZ im = true then false else (fJ (wN im) ([], []) 0 im.imports.l).1
def pg (im : ax) (e : Int) (x : fm) : Bool := ((!ic x.kind 0 7) || (!ic x.at_ e (im.data - dM x.kind))) || (!ic x.import_ (-1) (im.imports.l.length - 1))
def tb (im : ax) (x : fm) : Bool := decide (x.import_ < 0) || (!decide (elt im.slots.l x.import_ = x.at_))
def gS (im : ax) (st : Int × Int) (_ : Nat) (x : fm) : Bool × (Int × Int) :=
 if pg im st.1 x = true then (false, st) else
 if x.kind = 3 then (if tb im x = true then (false, st) else (true, (x.at_ + dM x.kind, st.2 + 1))) else
 if (x.kind = 5 ∨ x.kind = 6 ∨ x.kind = 7) ∧ x.import_ < 0 then (false, st) else (true, (x.at_ + dM x.kind, st.2))
def mH (l : List Int) : Int := ((l.filter fun s => !decide (s = -1)).length : Nat)
def lG (im : ax) : Bool := (fJ (gS im) (0, 0) 0 im.dyns.l).1 && decide ((fJ (gS im) (0, 0) 0 im.dyns.l).2.2 - mH im.slots.l = 0)
theorem vS {im : ax} {e : Int} {x : fm} (h : pg im e x = false) : (0 ≤ x.kind ∧ x.kind ≤ 7) ∧ (e ≤ x.at_ ∧ x.at_ ≤ im.data - dM x.kind) ∧ (-1 ≤ x.import_ ∧ x.import_ ≤ im.imports.l.length - 1) := by
 unfold pg at h
 simp only [Bool.or_eq_false_iff, Bool.not_eq_false', mj] at h
 exact ⟨h.1.1, h.1.2, h.2⟩
theorem yI (k : Int) : dM k = 4 ∨ dM k = 8 := by unfold dM; split <;> simp
theorem vT (l : List Int) (s : Int) : mH (l ++ [s]) = if s = -1 then mH l else mH l + 1 := by
 unfold mH
 rw [List.filter_append]
 by_cases h : s = -1
 · rw [if_pos h]; simp [h]
 · rw [if_neg h]; simp [h]
theorem tX (l : List Int) : 0 ≤ mH l ∧ mH l ≤ l.length := by
 unfold mH
 have := List.length_filter_le (fun s : Int => !decide (s = -1)) l
 omega
end Go.Proofs.YtahgkiicjohonaaGreat

namespace Go.Sy
open Go.RowKit Go.Lp
theorem aaM {P : Program} {n : Fr} {ops : Array Oper} {Q : Exit → Sta → Prop} {env : Env} {ps : List Per} {hp : List Res} {rest : List Oper} (i : Nat) (h : aL P n ops Q rest ⟨env, ps, hp.set i emp⟩) : aL P n ops Q rest ⟨env, ps, hp⟩ := fun w S fp a hst he hn hd => by
 have hX : ∀ b, tot (fun k => if k = i then (fun _ => False) else fp k) (hp.set i emp).length b → tot fp hp.length b := fun b ⟨k, hk, hb⟩ => by
   dsimp only at hb
   by_cases e : k = i
   · rw [if_pos e] at hb; exact hb.elim
   · rw [if_neg e] at hb; exact ⟨k, by simpa using hk, hb⟩
 exact fD (fun e a' w' hp' => hp'.trans (Evo.refl _ _ _) fun b hb => .inl (hX b hb)) _ _ _ (h w S _ a (hst.drop i) he hn hd)
theorem rr {P : Program} {n : Fr} {ops : Array Oper} {Q : Exit → Sta → Prop} {env : Env} {ps : List Per} {hp : List Res} {ty : TypeId} {pos : String} {af : Array Edge} {gd : Option (Nat × Bool)} {rest : List Oper} {t : Nat} {f : FuncId} {g : Operand} {caps : List Value} {l : List Operand} {ts : Array TypeId} {vs : List Value} {v : Value} (lp : List Nat) (i : Nat) (hf : dJ P f = true) (c : Bool) (hc : guardOf ops env ⟨some t, .call ⟨.value g, l.toArray, ts⟩, ty, pos, af, gd⟩ = some c) (ht : fits n.size (some t) = true) (hi : i < hp.length)
   (hgv : c = true → ev env g = some (true, .func (.func f) #[] caps.toArray)) (hx : c = true → evs env l = some vs) (hcon : c = true → Con P f (vs ++ caps) (fj ps lp) (cF hp [i]) fun r ps' hp' => ps' = [] ∧ hp' = [] ∧ r = v)
   (h : aL P n ops Q rest ⟨(t, c, v) :: env, ps, hp.set i emp⟩) : aL P n ops Q (⟨some t, .call ⟨.value g, l.toArray, ts⟩, ty, pos, af, gd⟩ :: rest) ⟨env, ps, hp⟩ := by
 cases c with
 | true =>
   refine aT (q := false) hc (fv lp [i] hf (hgv rfl) (hx rfl) ht (by simp [okH, hi]) rfl (hcon rfl) ?_)
   rintro _ _ _ ⟨rfl, rfl, rfl⟩
   refine iP ?_ h
   apply List.ext_getElem?; intro j; rw [iI, List.getElem?_set, Nat.zero_add]
   by_cases hj : j < hp.length
   · rw [if_pos hj]
     by_cases e : i = j
     · subst e; rw [if_pos rfl, if_pos hj]; simp [place]
     · rw [if_neg e]; simp [place, e]
   · rw [if_neg hj, if_neg (by omega), List.getElem?_eq_none (by simp), List.getElem?_eq_none (by omega)]
 | false => exact ko (v := v) false hc ht (fun h => by cases h) (aaM i h)
theorem acF {P : Program} {f : FuncId} {args : List Value} {ps : List Per} {l : List Res} {R : Value → List Per → List Res → Prop} (h : Con P f args ps l R) : Con P f args ps [Bun l] fun v ps' hp' => ∃ l', hp' = [Bun l'] ∧ R v ps' l' := fun w S fp hst => by
 obtain ⟨fp2, k1, k2⟩ := hst.unbun
 refine (h w S fp2 k1).mono fun e w' ⟨v, ps', hp', S', fp', he, hR, hst', hE, hg⟩ => ?_
 exact ⟨v, ps', [Bun hp'], S', _, he, ⟨hp', rfl, hR⟩, hst'.bun, hE.wider k2, fun b hb => (hg b ((sQ _ b (Bun hp')).1 hb)).imp (k2 b) id⟩
end Go.Sy

