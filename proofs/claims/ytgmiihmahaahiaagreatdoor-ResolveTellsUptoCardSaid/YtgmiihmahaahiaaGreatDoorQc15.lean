/- Parts of the proof, in build order. No condition. -/
import Derived.Test.YtgmiihmahaahiaaGreatDoorQc14
import Derived.Test.YtgmiihmahaahiaaGreatDoorQc03
import Derived.Test.YtgmiihmahaahiaaGreatDoorQc13
set_option linter.unusedSimpArgs false
set_option linter.unusedVariables false
set_option maxHeartbeats 1000000
set_option maxRecDepth 20000
namespace Go.Proofs.YtgmiihmahaahiaaGreatDoor
open Go.RowKit Go.Lp Go.Sy
open Go.Proofs.Tryz
attribute [local irreducible] aL aB awp aC fwp
theorem sR {o : Option Dfn} {t : Sl Int} {b : Bool} (h : iC o t b) (hb : b = true) : t.l.length = 2 := by
 cases o with
 | none => rw [h.1] at hb; cases hb
 | some e => rw [h.2 e rfl]; rfl
theorem aam {kp : List (Sl Bool)} {L : List Dfn} {d : Dfn} {t : Sl Int} {b : Bool} (h : iC (cd kp L d.key) t b) : (b && decide (elt t.l 0 = d.p.obj) && decide (elt t.l 1 = d.p.sym)) = fD kp L d := by
 unfold fD
 cases ho : cd kp L d.key with
 | none => rw [ho] at h; rw [h.1]; simp
 | some e =>
   rw [ho] at h
   rw [h.1, h.2 e rfl]
   have e0 : elt (prJ e) 0 = e.p.obj := rfl
   have e1 : elt (prJ e) 1 = e.p.sym := rfl
   rw [e0, e1]
   rw [Bool.eq_iff_iff]
   simp only [Option.isSome_some, Bool.true_and, Bool.and_eq_true, decide_eq_true_eq, Option.map_some, Option.some.injEq]
   constructor
   · rintro ⟨h1, h2⟩
     cases he : e.p; cases hd : d.p
     rw [he] at h1 h2; rw [hd] at h1 h2
     simp only at h1 h2
     rw [h1, h2]
   · intro h1; rw [h1]; exact ⟨rfl, rfl⟩
theorem pE (x : br) (hok : ew x.objs.l x.kp.l) (i k : Nat) (o : ax) (s : bg) (ho : x.objs.l[i]? = some o) (hs : o.syms.l[k]? = some s) : Con Tryz.prog 46 [x.objs.val, x.kp.val, .int .i64 i, .int .i64 k] [x.ok] [] fun r _ _ => r = .bool (fD x.kp.l (aW x.objs.l) ⟨⟨(i : Int), (k : Int)⟩, s⟩) := by
 have hi := (List.getElem?_eq_some_iff.1 ho).1
 have hm : (⟨⟨(i : Int), (k : Int)⟩, s⟩ : Dfn) ∈ aW x.objs.l := eX.2 ⟨i, k, hi, by rw [show elt x.objs.l (i : Int) = o from kg ho]; exact hs, rfl⟩
 refine Con.enter Tryz.func46 rfl (by simp [Tryz.ntmps46]) ?_
 show awp _ _ _ _ ⟨[(0, true, _), (1, true, _), (2, true, _), (3, true, _)], _, _⟩
 refine aSR (aA rfl (aNn (aSR (aM rfl (aM rfl ?_)))))
 refine ck true rfl rfl (fun _ => ai Tryz.underlying22 tk61 rfl ((br.f_objs (.of (an 0 rfl)))) rfl (aJ ho) rfl rfl) (fun h => absurd h (by decide)) (fun ⟨b1_2, o1_2⟩ => ?_)
 refine aU rfl (qFA (off := 2) rfl) ?_
 refine aU rfl (aF (o := 2) tk51 rfl (an 0 rfl) rfl rfl) (aM rfl ?_)
 refine ck true rfl rfl (fun _ => ai Tryz.underlying51 tk63 rfl ((ax.f_syms (Ent.all (br.f_objsA (.of (an 1 rfl))) ho))) rfl (aJ hs) rfl rfl) (fun h => absurd h (by decide)) (fun ⟨b1_6, o1_6⟩ => ?_)
 refine aU rfl (aF (o := 0) tk63 rfl (an 0 rfl) rfl rfl) ?_
 refine aj (q := true) rfl (bp (zs := [.string .empty, .string .empty, .bool false, .int .i64 0, .int .i64 0, .int .i64 0, .int .i64 0, .int .i64 0, .int .i64 0, .int .i64 0]) (by kernel_rfl) rfl (fun b1_8 => ?_))
 refine aHN ?_
 refine aj rfl (aT 0 tk63 rfl rfl rfl rfl ?_)
 refine aHK ?_
 refine aNs (aSR ?_)
 refine aU rfl (qFA (off := 3) rfl) ?_
 refine aU rfl (ab 0 tk3 rfl rfl rfl) (aU rfl (bB rfl rfl) (aNn ?_))
 refine ah _ rfl (fun h1 => ?_) (fun h1 => ?_)
 ·skip
  refine aSR (aA rfl (aNn (aq (aK ?_))))
  refine aV [] [] rfl Tryz.results46 rfl ?_ (.inr rfl)
  have hb0 : s.bind = 0 := by simpa using h1
  cases hc : fD x.kp.l (aW x.objs.l) ⟨⟨(i : Int), (k : Int)⟩, s⟩ with
  | false => rfl
  | true =>
    have := l0 (ed _ _) hm hc
    exfalso; unfold dN at this; simp [hb0] at this
 ·skip
  refine au (av (aSR (aM rfl (aM rfl ?_))))
  refine aU rfl (qFA (off := 0) rfl) ?_
  refine aU rfl (ab 0 tk9 rfl rfl rfl) ?_
  refine aU rfl (qFA (off := 1) rfl) ?_
  refine aU rfl (ab 0 tk9 rfl rfl rfl) ?_
  refine aj (q := true) rfl (bF [0] [] (by kernel_rfl) rfl rfl rfl rfl (kI x hok s.name s.version) ?_)
  rintro _ _ _ ⟨rfl, t, b, rfl, hb, rfl⟩
  refine aST ?_
  refine aM rfl (aU rfl (bc rfl rfl) (aU rfl (bc rfl rfl) (aA rfl (aA rfl (aNn (aSR (aM rfl (aM rfl (aG rfl rfl (fun hc => ar rfl) ?_)))))))))
  refine ck _ rfl rfl (fun hc => ai Tryz.underlying90 tk3 (aa rfl hc) ((.of (an 0 rfl))) rfl (cR (i := 0) (by have := sR hb (by simpa using hc); omega) (by decide)) (by simp) rfl) (fun _ => ⟨(0, 0)⟩) (fun ⟨b5_3, o5_3⟩ => ?_)
  refine aG rfl rfl (fun hc => aF (o := 0) tk3 (aa rfl hc) (an 0 rfl) hc rfl) (aG rfl rfl (fun hc => ar rfl) (aG rfl rfl (fun hc => bB (aa rfl hc) (aa rfl hc)) (aU rfl (bn rfl rfl (fun h => gt rfl h)) (aM rfl (aG rfl rfl (fun hc => ar rfl) ?_)))))
  refine ck _ rfl rfl (fun hc => ai Tryz.underlying90 tk3 (aa rfl hc) ((.of (an 1 rfl))) rfl (cR (i := 1) (by have := sR hb (by simp at hc; exact hc.1); omega) (by decide)) (by simp) rfl) (fun _ => ⟨(0, 0)⟩) (fun ⟨b5_10, o5_10⟩ => ?_)
  refine aG rfl rfl (fun hc => aF (o := 0) tk3 (aa rfl hc) (an 0 rfl) hc rfl) (aG rfl rfl (fun hc => ar rfl) (aG rfl rfl (fun hc => bB (aa rfl hc) (aa rfl hc)) (aU rfl (bn rfl rfl (fun h => gt rfl h)) (aA rfl (aNn (aq ?_))))))
  refine aV [] [] rfl Tryz.results46 rfl ?_ (.inr rfl)
  rw [← aam (d := ⟨⟨(i : Int), (k : Int)⟩, s⟩) hb]
theorem kE (x : br) (hok : ew x.objs.l x.kp.l) (i k : Nat) (o : ax) (s : bg) (ho : x.objs.l[i]? = some o) (hs : o.syms.l[k]? = some s) : Con Tryz.prog 94 [x.objs.val, x.kp.val, .int .i64 i, .int .i64 k] [x.ok] [] fun r _ _ => r = .bool (cH x.kp.l (aW x.objs.l) ⟨⟨(i : Int), (k : Int)⟩, s⟩) := by
 refine Con.enter Tryz.func94 rfl (by simp [Tryz.ntmps94]) ?_
 show awp _ _ _ _ ⟨[(0, true, _), (1, true, _), (2, true, _), (3, true, _)], _, _⟩
 refine aSR (aA rfl (aNn (aSR (aM rfl (aM rfl ?_)))))
 refine ck true rfl rfl (fun _ => ai Tryz.underlying22 tk61 rfl ((br.f_objs (.of (an 0 rfl)))) rfl (aJ ho) rfl rfl) (fun h => absurd h (by decide)) (fun ⟨b1_2, o1_2⟩ => ?_)
 refine aU rfl (qFA (off := 2) rfl) ?_
 refine aU rfl (aF (o := 2) tk51 rfl (an 0 rfl) rfl rfl) (aM rfl ?_)
 refine ck true rfl rfl (fun _ => ai Tryz.underlying51 tk63 rfl ((ax.f_syms (Ent.all (br.f_objsA (.of (an 1 rfl))) ho))) rfl (aJ hs) rfl rfl) (fun h => absurd h (by decide)) (fun ⟨b1_6, o1_6⟩ => ?_)
 refine aU rfl (aF (o := 0) tk63 rfl (an 0 rfl) rfl rfl) ?_
 refine aj (q := true) rfl (bp (zs := [.string .empty, .string .empty, .bool false, .int .i64 0, .int .i64 0, .int .i64 0, .int .i64 0, .int .i64 0, .int .i64 0, .int .i64 0]) (by kernel_rfl) rfl (fun b1_8 => ?_))
 refine aHN ?_
 refine aj rfl (aT 0 tk63 rfl rfl rfl rfl ?_)
 refine aHK ?_
 refine aNn (aSR ?_)
 refine aU rfl (qFA (off := 1) rfl) ?_
 refine aU rfl (ab 0 tk9 rfl rfl rfl) (aU rfl (cZ rfl rfl) (aM rfl ?_))
 refine aG rfl rfl (fun hc => qFA (off := 2) rfl) ?_
 refine aG rfl rfl (fun hc => ab 0 tk4 (aa rfl hc) rfl rfl) (aU rfl (ct rfl rfl (fun h => gf rfl h)) (aM rfl (aG rfl rfl (fun hc => ar rfl) (aG rfl rfl (fun hc => ar rfl) (aG rfl rfl (fun hc => ar rfl) (aG rfl rfl (fun hc => ar rfl) ?_))))))
 refine aG rfl rfl (fun hc => bw (by kernel_rfl) (aI (aa rfl hc) (aI (aa rfl hc) (aI (aa rfl hc) (aI (aa rfl hc) rfl)))) (fun w S fp hst => (pE x hok i k o s ho hs).quiet1 (an 2 rfl) hst)) ?_
 refine aU rfl (bn rfl rfl (fun h => gt rfl h)) (aA rfl (aNn (aq ?_)))
 refine aV [] [] rfl Tryz.results94 rfl ?_ (.inr rfl)
 unfold cH; rw [Bool.and_comm]; rfl
def ey (kp : List (Sl Bool)) (L : List Dfn) (sv : ByteArray → ByteArray → Bool) (n v : ByteArray) (d : Dfn) : Bool := decide (d.s.name = n) && (fD kp L d && (if v = .empty then (decide (d.s.version = .empty) || d.s.main) else sv d.s.version v))
theorem j7 {os : List ax} {f : Dfn → Bool} {i k : Nat} {o : ax} {s : bg} (ho : os[i]? = some o) (hs : o.syms.l[k]? = some s) (h1 : ∀ d ∈ bQ os i, f d = false) (h2 : ∀ d ∈ cu (i : Int) (o.syms.l.take k), f d = false) (hf : f ⟨⟨(i : Int), (k : Int)⟩, s⟩ = true) : (aW os).find? f = some ⟨⟨(i : Int), (k : Int)⟩, s⟩ := by
 have hi := (List.getElem?_eq_some_iff.1 ho).1
 have hoo : elt os (i : Int) = o := kg ho
 obtain ⟨M, hM⟩ := gj os (i := i + 1) (n := os.length) (by omega)
 obtain ⟨M2, hM2⟩ := iB (i : Int) o.syms.l (k + 1)
 have e : aW os = (bQ os i ++ cu (i : Int) (o.syms.l.take k)) ++ ([⟨⟨(i : Int), (k : Int)⟩, s⟩] ++ (M2 ++ M)) := by
   unfold aW; rw [hM, cq, hoo, hM2, dz hs]; simp
 rw [e, List.find?_append, List.find?_eq_none.2 fun d hd => by
   rcases List.mem_append.1 hd with hd | hd
   · rw [h1 d hd]; simp
   · rw [h2 d hd]; simp]
 simp [hf]
theorem we {x : br} (h : Ent [x.ok] x.ok) : ∀ p ∈ [ShF aH.row x.vs, bP aH.ok x.vs.l], Ent [x.ok] p := fun p hp => by
 simp only [List.mem_cons, List.not_mem_nil, or_false] at hp
 rcases hp with rfl | rfl
 · exact br.f_vs h
 · exact br.f_vsA h
section
variable {kp : List (Sl Bool)} {L : List Dfn} {sv : ByteArray → ByteArray → Bool} {n v : ByteArray} {d : Dfn}
theorem vA (h : (!decide (d.s.name = n) || !fD kp L d) = true) : ey kp L sv n v d = false := by
 unfold ey
 rcases Bool.or_eq_true_iff.1 h with h | h
 · simp at h; simp [h]
 · simp at h; simp [h]
theorem p9 (h : (!decide (d.s.name = n) || !fD kp L d) = false) : ey kp L sv n v d = (decide (v = ⟨#[]⟩) && cH kp L d || !decide (v = ⟨#[]⟩) && sv d.s.version v) := by
 have e0 : (⟨#[]⟩ : ByteArray) = ByteArray.empty := rfl
 rw [e0]
 simp at h
 unfold ey cH
 rw [h.2, decide_eq_true h.1]
 by_cases hv : v = ByteArray.empty <;> simp [hv]
theorem uS (h : (!decide (d.s.name = n) || !fD kp L d) = false) (h4 : (decide (v = ⟨#[]⟩) && cH kp L d || !decide (v = ⟨#[]⟩) && sv d.s.version v) = false) : ey kp L sv n v d = false := by rw [p9 h]; exact h4
theorem tQ (h : (!decide (d.s.name = n) || !fD kp L d) = false) (h4 : (decide (v = ⟨#[]⟩) && cH kp L d || !decide (v = ⟨#[]⟩) && sv d.s.version v) = true) : ey kp L sv n v d = true := by rw [p9 h]; exact h4
theorem yz {t : Sl Int} (hv : ¬ v = ⟨#[]⟩) (h : iC (cd kp L (n, v)) t true) : iC (dI kp L sv n v) t true := by
 have hv : ¬ v = ByteArray.empty := hv
 unfold dI
 rw [if_neg hv]
 cases hc : cd kp L (n, v) with
 | none => rw [hc] at h; cases h.1
 | some e => rw [hc] at h; exact ⟨rfl, fun e2 he => by rw [← Option.some.inj he]; exact h.2 e rfl⟩
theorem vi (hv : ¬ v = ByteArray.empty) : ey kp L sv n v = fun d => decide (d.s.name = n) && (fD kp L d && sv d.s.version v) := by
 funext d; unfold ey; rw [if_neg hv]
theorem wD : ey kp L sv n .empty = fun d => decide (d.s.name = n) && cH kp L d := by
 funext d; unfold ey cH; rw [if_pos rfl]
theorem yn {t t2 : Sl Int} {b2 : Bool} (hv : ¬ v = ⟨#[]⟩) (h : iC (cd kp L (n, v)) t false) (h2 : iC (L.find? (ey kp L sv n v)) t2 b2) : iC (dI kp L sv n v) t2 b2 := by
 have hv : ¬ v = ByteArray.empty := hv
 unfold dI
 rw [if_neg hv]
 cases hc : cd kp L (n, v) with
 | some e => rw [hc] at h; cases h.1
 | none => rw [vi hv] at h2; exact h2
theorem yr {t2 : Sl Int} {b2 : Bool} (hv : v = ⟨#[]⟩) (h2 : iC (L.find? (ey kp L sv n v)) t2 b2) : iC (dI kp L sv n v) t2 b2 := by
 have hv : v = ByteArray.empty := hv
 subst hv
 unfold dI cF
 rw [if_pos rfl, List.head?_filter]
 rw [wD] at h2; exact h2
end
theorem lX (x : br) (hok : ew x.objs.l x.kp.l) (hP : (x.vs.l.flatMap fun d => d.parents.l).length ≤ 800000000) (n v : ByteArray) : Con Tryz.prog 196 [x.objs.val, x.kp.val, x.vs.val, .string n, .string v] [x.ok] [] fun r ps hp => hp = [] ∧ ∃ (t : Sl Int) (b : Bool), r = .tuple #[t.val, .bool b] ∧ iC ((aW x.objs.l).find? (ey x.kp.l (aW x.objs.l) (di x.vs.l) n v)) t b ∧ ps = [ShF gm t] := by
 have hn5 := hok.n
 refine Con.enter Tryz.func196 rfl (by simp [Tryz.ntmps196]) ?_
 show awp _ _ _ _ ⟨[(0, true, _), (1, true, _), (2, true, _), (3, true, _), (4, true, _)], _, _⟩
 refine aSR (aA rfl (aA rfl (aNs (aSR (aA rfl (aNn (aw ?_)))))))
 refine aP [0, 1, 2, 3, 4, 12] [0] [] (fun (i : Nat) st => (i ≤ x.objs.l.length ∧ ∀ d ∈ bQ x.objs.l i, ey x.kp.l (aW x.objs.l) (di x.vs.l) n v d = false) ∧ st = ⟨[(0, true, x.objs.val), (1, true, x.kp.val), (2, true, x.vs.val), (3, true, .string n), (4, true, .string v), (12, true, .int .i64 i)], [x.ok], []⟩) (fun i => x.objs.l.length - i) rfl (⟨0, ⟨Nat.zero_le _, fun d hd => by cases hd⟩, rfl⟩) ?_
 rintro i st ⟨⟨hi, hno⟩, rfl⟩
 refine az (aSR (aM rfl (aM rfl (aU rfl (aZ Tryz.underlying22 rfl) (aU rfl (bt rfl rfl) (aNn ?_))))))
 refine ah _ rfl (fun h1 => ?_) (fun h1 => ?_)
 ·skip
  have hi' : i < x.objs.l.length := by simp at h1; omega
  have ho := bN hi'
  generalize hoo : elt x.objs.l (i : Int) = o at ho
  have ho14 := hok.sy o (List.mem_of_getElem? ho)
  refine au (av (az (aw (aSR (aA rfl (aNn (aw ?_)))))))
  refine aP [0, 1, 2, 3, 4, 12, 13] [0] [] (fun (k : Nat) st => (k ≤ o.syms.l.length ∧ ∀ d ∈ cu (i : Int) (o.syms.l.take k), ey x.kp.l (aW x.objs.l) (di x.vs.l) n v d = false) ∧ st = ⟨[(0, true, x.objs.val), (1, true, x.kp.val), (2, true, x.vs.val), (3, true, .string n), (4, true, .string v), (12, true, .int .i64 i), (13, true, .int .i64 k)], [x.ok], []⟩) (fun k => o.syms.l.length - k) rfl (⟨0, ⟨Nat.zero_le _, fun d hd => by simp [cu] at hd⟩, rfl⟩) ?_
  rintro k st ⟨⟨hk, hnk⟩, rfl⟩
  refine az (aSR (aM rfl (aM rfl (aM rfl ?_))))
  refine ck true rfl rfl (fun _ => ai Tryz.underlying22 tk61 rfl ((br.f_objs (.of (an 0 rfl)))) rfl (aJ ho) rfl rfl) (fun h => absurd h (by decide)) (fun ⟨b5_3, o5_3⟩ => ?_)
  refine aU rfl (qFA (off := 2) rfl) ?_
  refine aU rfl (aF (o := 2) tk51 rfl (an 0 rfl) rfl rfl) (aU rfl (aZ Tryz.underlying51 rfl) (aU rfl (bt rfl rfl) (aNn ?_)))
  refine ah _ rfl (fun h2 => ?_) (fun h2 => ?_)
  ·skip
   have hk' : k < o.syms.l.length := by simp at h2; omega
   obtain ⟨s, hsk⟩ : ∃ s, o.syms.l[k]? = some s := ⟨_, List.getElem?_eq_getElem hk'⟩
   have hnext : ey x.kp.l (aW x.objs.l) (di x.vs.l) n v ⟨⟨(i : Int), (k : Int)⟩, s⟩ = false → ∀ d ∈ cu (i : Int) (o.syms.l.take (k + 1)), ey x.kp.l (aW x.objs.l) (di x.vs.l) n v d = false := fun h d hd => by
     rw [dz hsk, List.mem_append] at hd
     rcases hd with hd | hd
     · exact hnk d hd
     · rw [List.mem_singleton.1 hd]; exact h
   refine au (av (az (aw (aSR (aM rfl (aM rfl ?_))))))
   refine ck true rfl rfl (fun _ => ai Tryz.underlying22 tk61 rfl ((br.f_objs (.of (an 1 rfl)))) rfl (aJ ho) rfl rfl) (fun h => absurd h (by decide)) (fun ⟨b7_2, o7_2⟩ => ?_)
   refine aU rfl (qFA (off := 2) rfl) ?_
   refine aU rfl (aF (o := 2) tk51 rfl (an 0 rfl) rfl rfl) (aM rfl ?_)
   refine ck true rfl rfl (fun _ => ai Tryz.underlying51 tk63 rfl ((ax.f_syms (Ent.all (br.f_objsA (.of (an 2 rfl))) ho))) rfl (aJ hsk) rfl rfl) (fun h => absurd h (by decide)) (fun ⟨b7_6, o7_6⟩ => ?_)
   refine aU rfl (aF (o := 0) tk63 rfl (an 0 rfl) rfl rfl) ?_
   refine aj (q := true) rfl (bp (zs := [.string .empty, .string .empty, .bool false, .int .i64 0, .int .i64 0, .int .i64 0, .int .i64 0, .int .i64 0, .int .i64 0, .int .i64 0]) (by kernel_rfl) rfl (fun b7_8 => ?_))
   refine aHN ?_
   refine aj rfl (aT 0 tk63 rfl rfl rfl rfl ?_)
   refine aHK ?_
   refine aNs (aSR ?_)
   refine aU rfl (qFA (off := 0) rfl) ?_
   refine aU rfl (ab 0 tk9 rfl rfl rfl) (aM rfl (aU rfl (fH rfl rfl) (aM rfl (aG rfl rfl (fun hc => ar rfl) (aG rfl rfl (fun hc => ar rfl) (aG rfl rfl (fun hc => ar rfl) (aG rfl rfl (fun hc => ar rfl) ?_)))))))
   refine aG rfl rfl (fun hc => bw (by kernel_rfl) (aI (aa rfl hc) (aI (aa rfl hc) (aI (aa rfl hc) (aI (aa rfl hc) rfl)))) (fun w S fp hst => (pE x hok i k o s ho hsk).quiet1 (an 3 rfl) hst)) ?_
   refine aG rfl rfl (fun hc => bT (aa rfl hc)) (aU rfl (ct rfl rfl (fun h => gf rfl h)) (aNn ?_))
   refine ah _ rfl (fun h3 => ?_) (fun h3 => ?_)
   ·skip
    refine aR (aS (aY (av (ae (aM rfl ?_)))))
    refine aU rfl (bf rfl rfl (by omega)) ?_
    refine aA rfl (aNn ?_)
    refine ⟨[0, 1, 2, 3, 4, 12, 13], [0], [], rfl, ?_⟩
    exact ⟨k + 1, ⟨⟨by omega, hnext (vA h3)⟩, rfl⟩, by omega⟩
   ·skip
    refine au (av (aSR (aM rfl (aU rfl (cZ rfl rfl) (aM rfl (aG rfl rfl (fun hc => ar rfl) (aG rfl rfl (fun hc => ar rfl) (aG rfl rfl (fun hc => ar rfl) (aG rfl rfl (fun hc => ar rfl) ?_)))))))))
    refine aG rfl rfl (fun hc => bw (by kernel_rfl) (aI (aa rfl hc) (aI (aa rfl hc) (aI (aa rfl hc) (aI (aa rfl hc) rfl)))) (fun w S fp hst => (kE x hok i k o s ho hsk).quiet1 (an 3 rfl) hst)) ?_
    refine aU rfl (bn rfl rfl (fun h => gt rfl h)) (aM rfl (aG rfl rfl (fun hc => ar rfl) (aG rfl rfl (fun hc => fH (aa rfl hc) rfl) (aG rfl rfl (fun hc => ar (aa rfl hc)) (aG rfl rfl (fun hc => ar rfl) ?_)))))
    refine aG rfl rfl (fun hc => qFA (off := 1) rfl) ?_
    refine aG rfl rfl (fun hc => ab 0 tk9 (aa rfl hc) rfl rfl) (aG rfl rfl (fun hc => ar rfl) ?_)
    refine aG rfl rfl (fun hc => bw (by kernel_rfl) (aI (aa rfl hc) (aI (aa rfl hc) (aI (aa rfl hc) rfl))) (fun w S fp hst => ((kH x.vs s.version v (by simp only [univ, List.length_cons]; omega)).pre (ps0 := [x.ok]) (we (.of (an 0 rfl)))).quiet1 (an 3 rfl) hst)) ?_
    refine aG rfl rfl (fun hc => bn (aa rfl hc) rfl (fun h => gt hc h)) (aU rfl (ct rfl rfl (fun h => gf rfl h)) (aNn ?_))
    refine ah _ rfl (fun h4 => ?_) (fun h4 => ?_)
    ·skip
     have hfi := j7 ho hsk hno hnk (tQ h3 h4)
     refine aSR (aM rfl (aM rfl ?_))
     refine aj (q := true) rfl (cG (zs := [.int .i64 0]) (l := [(0, .tmp 71), (1, .tmp 72)]) el90 (by kernel_rfl) (by decide) (by decide) (by decide) rfl rfl rfl (.more rfl (.v rfl .nil) (.more rfl (.v rfl .nil) .nil)) rfl rfl (fun v10_2 => ?_))
     refine aHN ?_
     refine aA rfl (aA rfl (aNn (dr 1 rfl (aq (bj (aK ?_))))))
     refine aK (bj (bj (aK (aK (bj (aK ?_))))))
     refine jF [4] [] rfl Tryz.results196 rfl rfl ?_ (.inr rfl)
     refine ⟨rfl, ⟨v10_2, 2, [(i : Int), (k : Int)]⟩, true, rfl, ?_, rfl⟩
     rw [hfi]
     exact ⟨rfl, fun e he => by rw [← Option.some.inj he]⟩
    ·skip
     refine au (bu (av (ae (aM rfl ?_))))
     refine aU rfl (bf rfl rfl (by omega)) ?_
     refine aA rfl (aNn ?_)
     refine ⟨[0, 1, 2, 3, 4, 12, 13], [0], [], rfl, ?_⟩
     exact ⟨k + 1, ⟨⟨by omega, hnext (uS h3 h4)⟩, rfl⟩, by omega⟩
  ·skip
   have hkl : o.syms.l.length ≤ k := by simp at h2; omega
   refine aR (aS (aS (aY (bu (av (ae (aM rfl ?_)))))))
   refine aU rfl (bf rfl rfl (by omega)) ?_
   refine aA rfl (aNn ?_)
   refine ⟨[0, 1, 2, 3, 4, 12], [0], [], rfl, ?_⟩
   refine ⟨i + 1, ⟨⟨by omega, fun d hd => ?_⟩, rfl⟩, by omega⟩
   rw [cq, hoo, List.mem_append] at hd
   rcases hd with hd | hd
   · exact hno d hd
   · rw [List.take_of_length_le hkl] at hnk; exact hnk d hd
 ·skip
  have hil : i = x.objs.l.length := by simp at h1; omega
  subst hil
  refine aR (aS (aS (aY (av (aSR (aA rfl (aA rfl (aNn ?_))))))))
  refine eC (ShF gm ⟨none, 0, []⟩) (fun _ _ _ => .e none 0 (by unfold maxLen; omega)) ?_
  refine aq ?_
  refine jF [1] [] rfl Tryz.results196 rfl rfl ?_ (.inr rfl)
  refine ⟨rfl, ⟨none, 0, []⟩, false, rfl, ?_, rfl⟩
  have hnf : (aW x.objs.l).find? (ey x.kp.l (aW x.objs.l) (di x.vs.l) n v) = none := List.find?_eq_none.2 fun d hd => by rw [hno d hd]; simp
  rw [hnf]
  exact ⟨rfl, fun e he => by cases he⟩
theorem qo (x : br) (hok : ew x.objs.l x.kp.l) (hP : (x.vs.l.flatMap fun d => d.parents.l).length ≤ 800000000) (n v : ByteArray) : Con Tryz.prog 95 [x.objs.val, x.kp.val, x.vs.val, .string n, .string v] [x.ok] [] fun r ps hp => hp = [] ∧ ∃ (t : Sl Int) (b : Bool), r = .tuple #[t.val, .bool b] ∧ iC (dI x.kp.l (aW x.objs.l) (di x.vs.l) n v) t b ∧ ps = [ShF gm t] := by
 refine Con.enter Tryz.func95 rfl (by simp [Tryz.ntmps95]) ?_
 show awp _ _ _ _ ⟨[(0, true, _), (1, true, _), (2, true, _), (3, true, _), (4, true, _)], _, _⟩
 refine aSR (aA rfl (aA rfl (aNs (aSR (aM rfl (aU rfl (fH rfl rfl) (aNn ?_)))))))
 refine ah _ rfl (fun h1 => ?_) (fun h1 => ?_)
 ·skip
  have hv : ¬ v = ⟨#[]⟩ := by simpa using h1
  refine aSR (aM rfl (aM rfl (aM rfl (aM rfl ?_))))
  refine aj (q := true) rfl (bF [0] [] (by kernel_rfl) rfl rfl rfl rfl (kI x hok n v) ?_)
  rintro _ _ _ ⟨rfl, t, b, rfl, hb, rfl⟩
  refine aST ?_
  refine aM rfl (aU rfl (bc rfl rfl) (aU rfl (bc rfl rfl) (aA rfl (aA rfl (aNn (aSR (aM rfl (aNn ?_))))))))
  refine ah _ rfl (fun h2 => ?_) (fun h2 => ?_)
  ·skip
   refine aSR (aM rfl (aA rfl (aA rfl (aNn (aq (aK ?_))))))
   refine jF [1] [] rfl Tryz.results95 rfl rfl ?_ (.inr rfl)
   exact ⟨rfl, t, true, rfl, yz hv (by rw [← h2]; exact hb), rfl⟩
  ·skip
   refine au (av (aSR (aM rfl (aM rfl (aM rfl (aM rfl (aM rfl ?_)))))))
   refine aj (q := true) rfl (bF [0] [] (by kernel_rfl) rfl rfl rfl rfl (lX x hok hP n v) ?_)
   rintro _ _ _ ⟨rfl, t2, b2, rfl, hb2, rfl⟩
   refine aST ?_
   refine aU rfl (bc rfl rfl) (aU rfl (bc rfl rfl) (aA rfl (aA rfl (aNn (aq ?_)))))
   refine jF [2] [] rfl Tryz.results95 rfl rfl ?_ (.inr rfl)
   exact ⟨rfl, t2, b2, rfl, yn hv (by rw [← h2]; exact hb) hb2, rfl⟩
 ·skip
  refine au (av (aSR (aM rfl (aM rfl (aM rfl (aM rfl (aM rfl ?_)))))))
  refine aj (q := true) rfl (bF [0] [] (by kernel_rfl) rfl rfl rfl rfl (lX x hok hP n v) ?_)
  rintro _ _ _ ⟨rfl, t2, b2, rfl, hb2, rfl⟩
  refine aST ?_
  refine aU rfl (bc rfl rfl) (aU rfl (bc rfl rfl) (aA rfl (aA rfl (aNn (aq ?_)))))
  refine jF [1] [] rfl Tryz.results95 rfl rfl ?_ (.inr rfl)
  exact ⟨rfl, t2, b2, rfl, yr (by simpa using h1) hb2, rfl⟩
theorem ja (x : br) (hok : ew x.objs.l x.kp.l) (n : ByteArray) : Con Tryz.prog 17 [x.objs.val, .string n] [x.ok] [] fun r _ _ => r = .int .i64 (fB (aW x.objs.l) n) := by
 have hn5 := hok.n
 refine Con.enter Tryz.func17 rfl (by simp [Tryz.ntmps17]) ?_
 show awp _ _ _ _ ⟨[(0, true, _), (1, true, _)], _, _⟩
 refine aSR (aA rfl (aNn (aSR (aA rfl (aNs (aSR (aA rfl (aNn ?_))))))))
 refine aw (aP [0, 1, 5, 6] [0] [] (fun (i : Nat) st => i ≤ x.objs.l.length ∧ st = ⟨[(0, true, x.objs.val), (1, true, .string n), (5, true, .int .i64 (fB (bQ x.objs.l i) n)), (6, true, .int .i64 i)], [x.ok], []⟩) (fun i => x.objs.l.length - i) rfl (⟨0, Nat.zero_le _, rfl⟩) ?_)
 rintro i st ⟨hi, rfl⟩
 refine az (aSR (aM rfl (aM rfl (aU rfl (aZ Tryz.underlying22 rfl) (aU rfl (bt rfl rfl) (aNn ?_))))))
 refine ah _ rfl (fun h1 => ?_) (fun h1 => ?_)
 ·skip
  have hi' : i < x.objs.l.length := by simp at h1; omega
  have ho := bN hi'
  generalize hoo : elt x.objs.l (i : Int) = o at ho
  have ho14 := hok.sy o (List.mem_of_getElem? ho)
  refine au (av (az (aw (aSR (aA rfl (aNn (aw ?_)))))))
  refine aP [0, 1, 5, 6, 7] [0] [] (fun (k : Nat) st => k ≤ o.syms.l.length ∧ st = ⟨[(0, true, x.objs.val), (1, true, .string n), (5, true, .int .i64 (fB (bQ x.objs.l i ++ cu (i : Int) (o.syms.l.take k)) n)), (6, true, .int .i64 i), (7, true, .int .i64 k)], [x.ok], []⟩) (fun k => o.syms.l.length - k) rfl (⟨0, Nat.zero_le _, by rw [List.take_zero, show cu (i : Int) [] = [] from rfl, List.append_nil]; rfl⟩) ?_
  rintro k st ⟨hk, rfl⟩
  refine az (aSR (aM rfl (aM rfl (aM rfl ?_))))
  refine ck true rfl rfl (fun _ => ai Tryz.underlying22 tk61 rfl ((br.f_objs (.of (an 0 rfl)))) rfl (aJ ho) rfl rfl) (fun h => absurd h (by decide)) (fun ⟨b6_3, o6_3⟩ => ?_)
  refine aU rfl (qFA (off := 2) rfl) ?_
  refine aU rfl (aF (o := 2) tk51 rfl (an 0 rfl) rfl rfl) (aU rfl (aZ Tryz.underlying51 rfl) (aU rfl (bt rfl rfl) (aNn ?_)))
  refine ah _ rfl (fun h2 => ?_) (fun h2 => ?_)
  ·skip
   have hk' : k < o.syms.l.length := by simp at h2; omega
   obtain ⟨s, hsk⟩ : ∃ s, o.syms.l[k]? = some s := ⟨_, List.getElem?_eq_getElem hk'⟩
   have hstep : fB (bQ x.objs.l i ++ cu (i : Int) (o.syms.l.take (k + 1))) n = gD n (fB (bQ x.objs.l i ++ cu (i : Int) (o.syms.l.take k)) n) ⟨⟨(i : Int), (k : Int)⟩, s⟩ := by
     rw [dz hsk, ← List.append_assoc, oC]
   refine au (av (az (aw (aSR (aM rfl (aM rfl ?_))))))
   refine ck true rfl rfl (fun _ => ai Tryz.underlying22 tk61 rfl ((br.f_objs (.of (an 1 rfl)))) rfl (aJ ho) rfl rfl) (fun h => absurd h (by decide)) (fun ⟨b8_2, o8_2⟩ => ?_)
   refine aU rfl (qFA (off := 2) rfl) ?_
   refine aU rfl (aF (o := 2) tk51 rfl (an 0 rfl) rfl rfl) (aM rfl ?_)
   refine ck true rfl rfl (fun _ => ai Tryz.underlying51 tk63 rfl ((ax.f_syms (Ent.all (br.f_objsA (.of (an 2 rfl))) ho))) rfl (aJ hsk) rfl rfl) (fun h => absurd h (by decide)) (fun ⟨b8_6, o8_6⟩ => ?_)
   refine aU rfl (aF (o := 0) tk63 rfl (an 0 rfl) rfl rfl) ?_
   refine aj (q := true) rfl (bp (zs := [.string .empty, .string .empty, .bool false, .int .i64 0, .int .i64 0, .int .i64 0, .int .i64 0, .int .i64 0, .int .i64 0, .int .i64 0]) (by kernel_rfl) rfl (fun b8_8 => ?_))
   refine aHN ?_
   refine aj rfl (aT 0 tk63 rfl rfl rfl rfl ?_)
   refine aHK ?_
   refine aNn (aSR ?_)
   refine aU rfl (qFA (off := 0) rfl) ?_
   refine aU rfl (ab 0 tk9 rfl rfl rfl) (aM rfl (aU rfl (cZ rfl rfl) (aM rfl ?_)))
   refine aG rfl rfl (fun hc => qFA (off := 3) rfl) ?_
   refine aG rfl rfl (fun hc => ab 0 tk3 (aa rfl hc) rfl rfl) (aG rfl rfl (fun hc => cN (aa rfl hc) rfl) (aU rfl (bn rfl rfl (fun h => gt rfl h)) (aNn ?_)))
   refine ah _ rfl (fun h3 => ?_) (fun h3 => ?_)
   ·skip
    have hc3 : s.name = n ∧ s.bind ≠ 0 := by simpa using h3
    refine ae (aM rfl ?_)
    refine aU rfl (qFA (off := 4) rfl) ?_
    refine aU rfl (ab 0 tk3 rfl rfl rfl) (aU rfl (yV rfl rfl) (aA rfl (cr (bu (av (ae (aM rfl ?_)))))))
    refine aU rfl (bf rfl rfl (by omega)) ?_
    refine aA rfl (aNn ?_)
    refine ⟨[0, 1, 5, 6, 7], [0], [], rfl, ?_⟩
    exact ⟨k + 1, ⟨by omega, by rw [hstep]; unfold gD; rw [if_pos hc3]; rfl⟩, by omega⟩
   ·skip
    have hc3 : ¬ (s.name = n ∧ s.bind ≠ 0) := by simpa using h3
    refine au (bu (av (ae (aM rfl ?_))))
    refine aU rfl (bf rfl rfl (by omega)) ?_
    refine aA rfl (aNn ?_)
    refine ⟨[0, 1, 5, 6, 7], [0], [], rfl, ?_⟩
    exact ⟨k + 1, ⟨by omega, by rw [hstep]; unfold gD; rw [if_neg hc3]; rfl⟩, by omega⟩
  ·skip
   refine aR (aS (aS (aY (bu (av (ae (aM rfl ?_)))))))
   refine aU rfl (bf rfl rfl (by omega)) ?_
   refine aA rfl (aNn ?_)
   refine ⟨[0, 1, 5, 6], [0], [], rfl, ?_⟩
   rw [List.take_of_length_le (by simp at h2; omega)]
   exact ⟨i + 1, ⟨by omega, by rw [cq, hoo]; rfl⟩, by omega⟩
 ·skip
  refine aR (aS (aS (aY (av (aSR (aM rfl (aA rfl (aNn (aq ?_)))))))))
  refine aV [] [] rfl Tryz.results17 rfl ?_ (.inr rfl)
  rw [show i = x.objs.l.length by simp at h1; omega]; rfl
end Go.Proofs.YtgmiihmahaahiaaGreatDoor

namespace Go.Proofs.YtgmiihmahaahiaaGreatDoor
open Go.RowKit Go.Lp Go.Sy
open Go.Proofs.Tryz
attribute [local irreducible] aL aB awp aC fwp
theorem vF (x : br) (hok : ew x.objs.l x.kp.l) (s : bg) (t : Sl Int) (e : Dfn) (he : InD x.objs.l e) (ht : t.l = prJ e) : Con Tryz.prog 96 [x.objs.val, x.kp.val, s.val, t.val] [ShF gm t, x.ok] [] fun r _ _ => r = .int .i64 (gQ x.kp.l (aW x.objs.l) s e) := by
 obtain ⟨a, b, ha, hab, hp⟩ := he
 obtain ⟨ep, es⟩ := e
 dsimp only at hab hp
 subst hp
 have hoa := bN ha
 have hw : gQ x.kp.l (aW x.objs.l) s ⟨⟨(a : Int), (b : Int)⟩, es⟩ = if es.bind = 3 then 4 else if es.version ≠ s.version then 5 else if (db x.kp.l (aW x.objs.l) (es.name, es.version)).length = 1 then 1 else if es.bind = 1 then 2 else 3 := rfl
 rw [hw]
 refine Con.enter Tryz.func96 rfl (by simp [Tryz.ntmps96]) ?_
 show awp _ _ _ _ ⟨[(0, true, _), (1, true, _), (2, true, _), (3, true, _)], _, _⟩
 refine aSR ?_
 refine aj (q := true) rfl (bI rfl rfl rfl (fun b0_0 => ?_))
 refine aHN ?_
 refine aA rfl (aNs ?_)
 refine aX [13] (by kernel_rfl) ?_
 show aB _ _ _ _ _ 14 #[false, false, false, false, false, false, false, false, false, false, false, false, false, false] _
 refine bV 0 rfl rfl (ar rfl) ?_
 refine bV 1 rfl rfl (ar rfl) ?_
 refine cD 2 rfl (by kernel_rfl) true rfl rfl (fun _ => ai Tryz.underlying90 tk3 rfl ((.of (an 0 rfl))) rfl (show (t.l.map gm)[0]? = some [D.v (.int .i64 (a : Int))] from by rw [ht]; rfl) rfl rfl) (fun h => absurd h (by decide)) (fun ⟨b1_2, o1_2⟩ => ?_)
 refine bV 3 rfl rfl (aF (o := 0) tk3 rfl (an 0 rfl) rfl rfl) ?_
 refine cD 4 rfl (by kernel_rfl) true rfl rfl (fun _ => ai Tryz.underlying22 tk61 rfl ((br.f_objs (.of (an 2 rfl)))) rfl (aJ hoa) rfl rfl) (fun h => absurd h (by decide)) (fun ⟨b1_4, o1_4⟩ => ?_)
 refine bV 5 rfl rfl (qFA (off := 2) rfl) ?_
 refine bV 6 rfl rfl (aF (o := 2) tk51 rfl (an 0 rfl) rfl rfl) ?_
 refine bV 7 rfl rfl (ar rfl) ?_
 refine cD 8 rfl (by kernel_rfl) true rfl rfl (fun _ => ai Tryz.underlying90 tk3 rfl ((.of (an 2 rfl))) rfl (show (t.l.map gm)[1]? = some [D.v (.int .i64 (b : Int))] from by rw [ht]; rfl) rfl rfl) (fun h => absurd h (by decide)) (fun ⟨b1_8, o1_8⟩ => ?_)
 refine bV 9 rfl rfl (aF (o := 0) tk3 rfl (an 0 rfl) rfl rfl) ?_
 refine cD 10 rfl (by kernel_rfl) true rfl rfl (fun _ => ai Tryz.underlying51 tk63 rfl ((ax.f_syms (Ent.all (br.f_objsA (.of (an 4 rfl))) hoa))) rfl (aJ hab) rfl rfl) (fun h => absurd h (by decide)) (fun ⟨b1_10, o1_10⟩ => ?_)
 refine bV 11 rfl rfl (aF (o := 0) tk63 rfl (an 0 rfl) rfl rfl) ?_
 refine bM (q := true) 12 rfl (by kernel_rfl) rfl rfl (bp (zs := [.string .empty, .string .empty, .bool false, .int .i64 0, .int .i64 0, .int .i64 0, .int .i64 0, .int .i64 0, .int .i64 0, .int .i64 0]) (by kernel_rfl) rfl (fun b1_12 => ?_))
 refine bST rfl ?_
 refine bM 13 rfl (by kernel_rfl) rfl rfl (aT 1 tk63 rfl rfl rfl rfl ?_)
 refine bST rfl ?_
 refine bD (by kernel_rfl) ?_
 refine av (az (aSR ?_))
 refine aU rfl (qFA (off := 3) rfl) ?_
 refine aU rfl (ab 1 tk3 rfl rfl rfl) (aU rfl (bB rfl rfl) (aNn ?_))
 refine ah _ rfl (fun h1 => ?_) (fun h1 => ?_)
 ·skip
  refine aSR (aA rfl (aNn (aq (aK ?_))))
  refine aV [] [] rfl Tryz.results96 rfl ?_ (.inr rfl)
  simp at h1; rw [if_pos h1]
 ·skip
  refine au (av (az (aSR ?_)))
  refine aU rfl (qFA (off := 1) rfl) ?_
  refine aU rfl (ab 1 tk9 rfl rfl rfl) ?_
  refine aU rfl (qFA (off := 1) rfl) ?_
  refine aU rfl (ab 0 tk9 rfl rfl rfl) (aU rfl (fH rfl rfl) (aNn ?_))
  refine ah _ rfl (fun h2 => ?_) (fun h2 => ?_)
  ·skip
   refine aSR (aA rfl (aNn (aq (aK ?_))))
   refine aV [] [] rfl Tryz.results96 rfl ?_ (.inr rfl)
   simp at h1 h2; rw [if_neg h1, if_pos h2]
  ·skip
   refine au (av (az (aSR (aM rfl (aM rfl ?_)))))
   refine aU rfl (qFA (off := 0) rfl) ?_
   refine aU rfl (ab 1 tk9 rfl rfl rfl) ?_
   refine aU rfl (qFA (off := 1) rfl) ?_
   refine aU rfl (ab 1 tk9 rfl rfl rfl) ?_
   refine aj (q := true) rfl (bF [0] [] (by kernel_rfl) rfl rfl rfl rfl (np x hok es.name es.version) ?_)
   rintro _ _ _ ⟨rfl, Q, rfl, hQ, rfl⟩
   refine aST ?_
   refine aU rfl (aZ Tryz.underlying288 rfl) (aU rfl (bB rfl rfl) (aNn ?_))
   refine ah _ rfl (fun h3 => ?_) (fun h3 => ?_)
   ·skip
    have hQl : (db x.kp.l (aW x.objs.l) (es.name, es.version)).length = 1 := by have := congrArg List.length hQ; rw [List.length_map, List.length_map] at this; simp at h3; omega
    refine aSR (aA rfl (aNn (aq (aK ?_))))
    refine aV [] [] rfl Tryz.results96 rfl ?_ (.inr rfl)
    simp at h1 h2; rw [if_neg h1, if_neg (by simp [h2]), if_pos hQl]
   ·skip
    have hQl : ¬ (db x.kp.l (aW x.objs.l) (es.name, es.version)).length = 1 := by have := congrArg List.length hQ; rw [List.length_map, List.length_map] at this; simp at h3; omega
    refine au (av (az (aSR ?_)))
    refine aU rfl (qFA (off := 3) rfl) ?_
    refine aU rfl (ab 1 tk3 rfl rfl rfl) (aU rfl (bB rfl rfl) (aNn ?_))
    refine ah _ rfl (fun h4 => ?_) (fun h4 => ?_)
    ·skip
     refine aSR (aA rfl (aNn (aq (aK ?_))))
     refine aV [] [] rfl Tryz.results96 rfl ?_ (.inr rfl)
     simp at h1 h2 h4; rw [if_neg h1, if_neg (by simp [h2]), if_neg hQl, if_pos h4]
    ·skip
     refine au (av (aSR (aA rfl (aNn (aq ?_)))))
     refine aV [] [] rfl Tryz.results96 rfl ?_ (.inr rfl)
     simp at h1 h2 h4; rw [if_neg h1, if_neg (by simp [h2]), if_neg hQl, if_neg h4]
theorem aab {kp : List (Sl Bool)} {L : List Dfn} {s : bg} {e : Dfn} (h : gQ kp L s e = 4) : e.s.bind = 3 := by
 unfold gQ at h
 split at h
 · assumption
 · split at h
   · omega
   · split at h
     · omega
     · split at h <;> omega
structure oS (x : br) : Prop where
 vs : (x.vs.l.flatMap fun d => d.parents.l).length ≤ 800000000
 ifs : ∀ f ∈ x.ifs.l, (f.versions.l.flatMap fun d => d.parents.l).length ≤ 800000000
theorem tU (x : br) (hz : oS x) (n v : ByteArray) : Con Tryz.prog 23 [x.ifs.val, .string n, .string v] [x.ok] [] fun r _ _ => r = .int .i64 (cA x.ifs.l n v) :=
 (w7 x.ifs n v hz.ifs).pre fun p hp => by
   have h : Ent [x.ok] x.ok := .of (an 0 rfl)
   simp only [List.mem_cons, List.not_mem_nil, or_false] at hp
   rcases hp with rfl | rfl
   · exact br.f_ifs h
   · exact br.f_ifsA h
theorem qg (x : br) (hok : ew x.objs.l x.kp.l) (hz : oS x) (i k : Nat) (o : ax) (s : bg) (ho : x.objs.l[i]? = some o) (hs : o.syms.l[k]? = some s) :
   Con Tryz.prog 41 [x.objs.val, x.kp.val, .bool x.lib, x.ifs.val, x.vs.val, .int .i64 i, .int .i64 k] [x.ok] [] fun r _ _ => r = .tuple #[((bS x.kp.l (aW x.objs.l) (di x.vs.l) (cA x.ifs.l) x.lib ⟨⟨(i : Int), (k : Int)⟩, s⟩).getD ff).val, .bool (bS x.kp.l (aW x.objs.l) (di x.vs.l) (cA x.ifs.l) x.lib ⟨⟨(i : Int), (k : Int)⟩, s⟩).isSome] := by
 have hi := (List.getElem?_eq_some_iff.1 ho).1
 have hkp := bN (l := x.kp.l) (i := i) (by have := hok.kn; omega)
 have hKl := hok.ks i hi
 rw [show elt x.objs.l (i : Int) = o from kg ho] at hKl
 have hsec := hok.sec o (List.mem_of_getElem? ho) s (List.mem_of_getElem? hs)
 have hch : bS x.kp.l (aW x.objs.l) (di x.vs.l) (cA x.ifs.l) x.lib ⟨⟨(i : Int), (k : Int)⟩, s⟩ = if s.bind = 0 then some (if elt (elt x.kp.l (i : Int)).l s.sec = true then ⟨1, (i : Int), (k : Int), 0, 0, false⟩ else ff) else match dI x.kp.l (aW x.objs.l) (di x.vs.l) s.name s.version with
   | some e => some ⟨if e.s.bind = 3 then 3 else 2, e.p.obj, e.p.sym, 0, gQ x.kp.l (aW x.objs.l) s e, x.lib && decide (fB (aW x.objs.l) s.name = 0)⟩
   | none => if cA x.ifs.l s.name s.version ≥ 0 then some ⟨4, 0, 0, cA x.ifs.l s.name s.version, 6, false⟩ else if s.sec ≠ -1 then some ff else if s.bind = 2 then some ⟨5, 0, 0, 0, 7, false⟩ else none := rfl
 generalize bS x.kp.l (aW x.objs.l) (di x.vs.l) (cA x.ifs.l) x.lib ⟨⟨(i : Int), (k : Int)⟩, s⟩ = CH at hch ⊢
 refine Con.enter Tryz.func41 rfl (by simp [Tryz.ntmps41]) ?_
 show awp _ _ _ _ ⟨[(0, true, _), (1, true, _), (2, true, _), (3, true, _), (4, true, _), (5, true, _), (6, true, _)], _, _⟩
 refine aSR ?_
 refine aj (q := true) rfl (bp (zs := [.int .i64 0, .int .i64 0, .int .i64 0, .int .i64 0, .int .i64 0, .bool false]) (by kernel_rfl) rfl (fun b0_0 => ?_))
 refine aHN ?_
 refine aA rfl (aNn (aSR (aM rfl (aM rfl ?_))))
 refine ck true rfl rfl (fun _ => ai Tryz.underlying22 tk61 rfl ((br.f_objs (.of (an 0 rfl)))) rfl (aJ ho) rfl rfl) (fun h => absurd h (by decide)) (fun ⟨b1_2, o1_2⟩ => ?_)
 refine aU rfl (qFA (off := 2) rfl) ?_
 refine aU rfl (aF (o := 2) tk51 rfl (an 0 rfl) rfl rfl) (aM rfl ?_)
 refine ck true rfl rfl (fun _ => ai Tryz.underlying51 tk63 rfl ((ax.f_syms (Ent.all (br.f_objsA (.of (an 1 rfl))) ho))) rfl (aJ hs) rfl rfl) (fun h => absurd h (by decide)) (fun ⟨b1_6, o1_6⟩ => ?_)
 refine aU rfl (aF (o := 0) tk63 rfl (an 0 rfl) rfl rfl) ?_
 refine aj (q := true) rfl (bp (zs := [.string .empty, .string .empty, .bool false, .int .i64 0, .int .i64 0, .int .i64 0, .int .i64 0, .int .i64 0, .int .i64 0, .int .i64 0]) (by kernel_rfl) rfl (fun b1_8 => ?_))
 refine aHN ?_
 refine aj rfl (aT 1 tk63 rfl rfl rfl rfl ?_)
 refine aHK ?_
 refine aNs (az ?_)
 refine aX [] (by kernel_rfl) ?_
 show aB _ _ _ _ _ 13 #[false, false, false, false, false, false, false, false, false, false, false, false, false] _
 refine bV 0 rfl rfl (qFA (off := 3) rfl) ?_
 refine bV 1 rfl rfl (ab 1 tk3 rfl rfl rfl) ?_
 refine bV 2 rfl rfl (bB rfl rfl) ?_
 refine bV 3 rfl rfl (ar rfl) ?_
 refine bW 4 rfl rfl rfl (fun hc => ar rfl) ?_
 refine bW 5 rfl rfl rfl (fun hc => ar rfl) ?_
 refine cD 6 rfl (by kernel_rfl) _ rfl rfl (fun hc => ai Tryz.underlying27 tk68 (aa rfl hc) ((br.f_kp (.of (an 2 rfl)))) (aa rfl hc) (aJ hkp) rfl rfl) (fun _ => ⟨(0, 0)⟩) (fun ⟨b2_6, o2_6⟩ => ?_)
 refine bW 7 rfl rfl rfl (fun hc => aF (o := 0) tk68 (aa rfl hc) (an 0 rfl) hc rfl) ?_
 refine bW 8 rfl rfl rfl (fun hc => qFA (off := 6) rfl) ?_
 refine bW 9 rfl rfl rfl (fun hc => ab 1 tk3 (aa rfl hc) rfl rfl) ?_
 refine cD 10 rfl (by kernel_rfl) _ rfl rfl (fun hc => ai Tryz.underlying68 tk4 (aa rfl hc) ((Ent.all (f := ShF bR) (br.f_kpA (.of (an 3 rfl))) hkp)) (aa rfl hc) (cR (i := s.sec) (by simp at hc; omega) (by simp at hc; omega)) (by simp at hc; omega) rfl) (fun _ => ⟨(0, 0)⟩) (fun ⟨b2_10, o2_10⟩ => ?_)
 refine bW 11 rfl rfl rfl (fun hc => aF (o := 0) tk4 (aa rfl hc) (an 0 rfl) hc rfl) ?_
 refine bV 12 rfl rfl (bn rfl rfl (fun h => gt rfl h)) ?_
 refine bD (by kernel_rfl) ?_
 refine av ?_
 refine ah _ rfl (fun h1 => ?_) (fun h1 => ?_)
 ·skip
  refine aSR (aM rfl (aM rfl ?_))
  refine aU rfl (cU (l := [(0, .const (.int .i64 1)), (1, .tmp 42), (2, .tmp 43), (4, .const (.int .i64 0))]) (zs := [.int .i64 0, .int .i64 0, .int .i64 0, .int .i64 0, .int .i64 0, .bool false]) (pl := [(0, 1), (1, 1), (2, 1), (3, 1), (4, 1), (5, 1)]) (by kernel_rfl) (by kernel_rfl) (by kernel_rfl) rfl rfl rfl) ?_
  refine aj rfl (aT 0 tk65 rfl rfl rfl rfl ?_)
  refine aHK ?_
  refine aA rfl (aNn (aq (aK ?_)))
  refine dZ [] [] rfl Tryz.results41 (cv 0 tk65 rfl rfl rfl) (cT rfl) ?_ (.inr rfl)
  simp at h1; rw [hch, if_pos h1.1, if_pos h1.2]; rfl
 ·skip
  refine au (av (az (aSR ?_)))
  refine aU rfl (qFA (off := 3) rfl) ?_
  refine aU rfl (ab 1 tk3 rfl rfl rfl) (aU rfl (bB rfl rfl) (aNn ?_))
  refine ah _ rfl (fun h2 => ?_) (fun h2 => ?_)
  ·skip
   have hk0 : ¬ elt (elt x.kp.l (i : Int)).l s.sec = true := by simp at h1 h2; simp [h1 h2]
   refine aSR ?_
   refine aU rfl (cU (l := []) (zs := [.int .i64 0, .int .i64 0, .int .i64 0, .int .i64 0, .int .i64 0, .bool false]) (pl := [(0, 1), (1, 1), (2, 1), (3, 1), (4, 1), (5, 1)]) (by kernel_rfl) (by kernel_rfl) (by kernel_rfl) rfl rfl rfl) ?_
   refine aj rfl (aT 0 tk65 rfl rfl rfl rfl ?_)
   refine aHK ?_
   refine aA rfl (aNn (aq (aK ?_)))
   refine dZ [] [] rfl Tryz.results41 (cv 0 tk65 rfl rfl rfl) (cT rfl) ?_ (.inr rfl)
   simp at h2; rw [hch, if_pos h2, if_neg hk0]; rfl
  ·skip
   have hb0 : ¬ s.bind = 0 := by simpa using h2
   rw [if_neg hb0] at hch
   refine au (av (aSR (aM rfl (aM rfl (aM rfl ?_)))))
   refine aU rfl (qFA (off := 0) rfl) ?_
   refine aU rfl (ab 1 tk9 rfl rfl rfl) ?_
   refine aU rfl (qFA (off := 1) rfl) ?_
   refine aU rfl (ab 1 tk9 rfl rfl rfl) ?_
   refine aj (q := true) rfl (bF [0] [] (by kernel_rfl) rfl rfl rfl rfl (qo x hok hz.vs s.name s.version) ?_)
   rintro _ _ _ ⟨rfl, t, b, rfl, hb, rfl⟩
   refine aST ?_
   refine aM rfl (aU rfl (bc rfl rfl) (aU rfl (bc rfl rfl) (aA rfl (aA rfl (aNs (aSR (aM rfl (aNn ?_))))))))
   refine ah _ rfl (fun h3 => ?_) (fun h3 => ?_)
   ·skip
    obtain ⟨e, hfe, hte⟩ : ∃ e, dI x.kp.l (aW x.objs.l) (di x.vs.l) s.name s.version = some e ∧ t.l = prJ e := by
      cases hf : dI x.kp.l (aW x.objs.l) (di x.vs.l) s.name s.version with
      | none => rw [hf] at hb; rw [hb.1] at h3; cases h3
      | some e => rw [hf] at hb; exact ⟨e, rfl, hb.2 e rfl⟩
    have hein : InD x.objs.l e := i1.1 (jm (ed _ _) hfe).1
    rw [hfe] at hch
    dsimp only at hch
    refine az ?_
    refine aX [13] (by kernel_rfl) ?_
    show aB _ _ _ _ _ 14 #[false, false, false, false, false, false, false, false, false, false, false, false, false, false] _
    refine bV 0 rfl rfl (ar rfl) ?_
    refine cD 1 rfl (by kernel_rfl) true rfl rfl (fun _ => ai Tryz.underlying90 tk3 rfl ((.of (an 0 rfl))) rfl (show (t.l.map gm)[0]? = some [D.v (.int .i64 e.p.obj)] from by rw [hte]; rfl) rfl rfl) (fun h => absurd h (by decide)) (fun ⟨b8_1, o8_1⟩ => ?_)
    refine bV 2 rfl rfl (aF (o := 0) tk3 rfl (an 0 rfl) rfl rfl) ?_
    refine bV 3 rfl rfl (ar rfl) ?_
    refine cD 4 rfl (by kernel_rfl) true rfl rfl (fun _ => ai Tryz.underlying90 tk3 rfl ((.of (an 1 rfl))) rfl (show (t.l.map gm)[1]? = some [D.v (.int .i64 e.p.sym)] from by rw [hte]; rfl) rfl rfl) (fun h => absurd h (by decide)) (fun ⟨b8_4, o8_4⟩ => ?_)
    refine bV 5 rfl rfl (aF (o := 0) tk3 rfl (an 0 rfl) rfl rfl) ?_
    refine bV 6 rfl rfl (ar rfl) ?_
    refine bV 7 rfl rfl (ar rfl) ?_
    refine bV 8 rfl rfl (ab 1 tk63 rfl rfl rfl) ?_
    refine bV 9 rfl rfl (ar rfl) ?_
    refine bV 10 rfl rfl (bw (by kernel_rfl) rfl (fun w S fp hst => (vF x hok s t e hein hte).quiet2 (an 2 rfl) (an 7 rfl) hst)) ?_
    refine bV 11 rfl rfl (cU (l := [(0, .const (.int .i64 2)), (1, .tmp 63), (2, .tmp 66), (4, .tmp 71)]) (zs := [.int .i64 0, .int .i64 0, .int .i64 0, .int .i64 0, .int .i64 0, .bool false]) (pl := [(0, 1), (1, 1), (2, 1), (3, 1), (4, 1), (5, 1)]) (by kernel_rfl) (by kernel_rfl) (by kernel_rfl) rfl rfl rfl) ?_
    refine bM (q := true) 12 rfl (by kernel_rfl) rfl rfl (bp (zs := [.int .i64 0, .int .i64 0, .int .i64 0, .int .i64 0, .int .i64 0, .bool false]) (by kernel_rfl) rfl (fun b8_12 => ?_))
    refine bST rfl ?_
    refine bM 13 rfl (by kernel_rfl) rfl rfl (aT 2 tk65 rfl rfl rfl rfl ?_)
    refine bST rfl ?_
    refine bD (by kernel_rfl) ?_
    refine av (az (aSR ?_))
    refine aU rfl (qFA (off := 4) rfl) ?_
    refine aU rfl (ab 2 tk3 rfl rfl rfl) (aU rfl (bB rfl rfl) (aNn ?_))
    refine ah _ rfl (fun h4 => ?_) (fun h4 => ?_)
    ·skip
     refine ae ?_
     refine aU rfl (qFA (off := 0) rfl) ?_
     refine aj rfl (aT 2 tk3 rfl rfl rfl rfl ?_)
     refine aHK ?_
     refine aNn (aSR (aM rfl (aM rfl (aG rfl rfl (fun hc => ar rfl) ?_))))
     refine aG rfl rfl (fun hc => qFA (off := 0) rfl) ?_
     refine aG rfl rfl (fun hc => ab 1 tk9 (aa rfl hc) rfl rfl) ?_
     refine aG rfl rfl (fun hc => bw (by kernel_rfl) (aI (aa rfl hc) (aI (aa rfl hc) rfl)) (fun w S fp hst => (ja x hok _).quiet1 (an 7 rfl) hst)) ?_
     refine aG rfl rfl (fun hc => bB (aa rfl hc) rfl) (aU rfl (bn rfl rfl (fun h => gt rfl h)) ?_)
     refine aU rfl (qFA (off := 5) rfl) ?_
     refine aj rfl (aT 2 tk4 rfl rfl rfl rfl ?_)
     refine aHK ?_
     refine aNn (aSR (aU rfl (ab 2 tk65 rfl rfl rfl) ?_))
     refine aj rfl (aT 0 tk65 rfl rfl rfl rfl ?_)
     refine aHK ?_
     refine aA rfl (aNn (aq (aK ?_)))
     refine dZ [] [] rfl Tryz.results41 (cv 0 tk65 rfl rfl rfl) (cT rfl) ?_ (.inr rfl)
     have hw4 : gQ x.kp.l (aW x.objs.l) s e = 4 := by simpa using h4
     have he3 : e.s.bind = 3 := aab hw4
     rw [hch, if_pos he3]; rfl
    ·skip
     refine au (av (aSR (aM rfl (aM rfl (aG rfl rfl (fun hc => ar rfl) ?_)))))
     refine aG rfl rfl (fun hc => qFA (off := 0) rfl) ?_
     refine aG rfl rfl (fun hc => ab 1 tk9 (aa rfl hc) rfl rfl) ?_
     refine aG rfl rfl (fun hc => bw (by kernel_rfl) (aI (aa rfl hc) (aI (aa rfl hc) rfl)) (fun w S fp hst => (ja x hok _).quiet1 (an 7 rfl) hst)) ?_
     refine aG rfl rfl (fun hc => bB (aa rfl hc) rfl) (aU rfl (bn rfl rfl (fun h => gt rfl h)) ?_)
     refine aU rfl (qFA (off := 5) rfl) ?_
     refine aj rfl (aT 2 tk4 rfl rfl rfl rfl ?_)
     refine aHK ?_
     refine aNn (aSR (aU rfl (ab 2 tk65 rfl rfl rfl) ?_))
     refine aj rfl (aT 0 tk65 rfl rfl rfl rfl ?_)
     refine aHK ?_
     refine aA rfl (aNn (aq (aK ?_)))
     refine dZ [] [] rfl Tryz.results41 (cv 0 tk65 rfl rfl rfl) (cT rfl) ?_ (.inr rfl)
     have hw4 : ¬ gQ x.kp.l (aW x.objs.l) s e = 4 := by simpa using h4
     have he3 : ¬ e.s.bind = 3 := fun h => hw4 (by unfold gQ; rw [if_pos h])
     rw [hch, if_neg he3]; rfl
   ·skip
    have hfn : dI x.kp.l (aW x.objs.l) (di x.vs.l) s.name s.version = none := by
      cases hf : dI x.kp.l (aW x.objs.l) (di x.vs.l) s.name s.version with
      | none => rfl
      | some e => rw [hf] at hb; rw [hb.1] at h3; cases h3
    rw [hfn] at hch
    dsimp only at hch
    refine au (av (aSR (aM rfl ?_)))
    refine aU rfl (qFA (off := 0) rfl) ?_
    refine aU rfl (ab 1 tk9 rfl rfl rfl) ?_
    refine aU rfl (qFA (off := 1) rfl) ?_
    refine aU rfl (ab 1 tk9 rfl rfl rfl) ?_
    refine aU rfl (bw (by kernel_rfl) rfl (fun w S fp hst => (tU x hz _ _).quiet1 (an 5 rfl) hst)) ?_
    refine aA rfl (aNs (aSR (aM rfl (aU rfl (cL rfl rfl) (aNn ?_)))))
    refine ah _ rfl (fun h5 => ?_) (fun h5 => ?_)
    ·skip
     refine aSR (aM rfl ?_)
     refine aU rfl (cU (l := [(0, .const (.int .i64 4)), (3, .tmp 95), (4, .const (.int .i64 6))]) (zs := [.int .i64 0, .int .i64 0, .int .i64 0, .int .i64 0, .int .i64 0, .bool false]) (pl := [(0, 1), (1, 1), (2, 1), (3, 1), (4, 1), (5, 1)]) (by kernel_rfl) (by kernel_rfl) (by kernel_rfl) rfl rfl rfl) ?_
     refine aj rfl (aT 0 tk65 rfl rfl rfl rfl ?_)
     refine aHK ?_
     refine aA rfl (aNn (aq (aK ?_)))
     refine dZ [] [] rfl Tryz.results41 (cv 0 tk65 rfl rfl rfl) (cT rfl) ?_ (.inr rfl)
     simp at h5; rw [hch, if_pos h5]; rfl
    ·skip
     refine au (av (az (aSR ?_)))
     refine aU rfl (qFA (off := 6) rfl) ?_
     refine aU rfl (ab 1 tk3 rfl rfl rfl) (aU rfl (cL rfl rfl) (aNn ?_))
     refine ah _ rfl (fun h6 => ?_) (fun h6 => ?_)
     ·skip
      refine aSR ?_
      refine aU rfl (cU (l := []) (zs := [.int .i64 0, .int .i64 0, .int .i64 0, .int .i64 0, .int .i64 0, .bool false]) (pl := [(0, 1), (1, 1), (2, 1), (3, 1), (4, 1), (5, 1)]) (by kernel_rfl) (by kernel_rfl) (by kernel_rfl) rfl rfl rfl) ?_
      refine aj rfl (aT 0 tk65 rfl rfl rfl rfl ?_)
      refine aHK ?_
      refine aA rfl (aNn (aq (aK ?_)))
      refine dZ [] [] rfl Tryz.results41 (cv 0 tk65 rfl rfl rfl) (cT rfl) ?_ (.inr rfl)
      simp at h5 h6; rw [hch, if_neg (by omega), if_pos (by omega)]; rfl
     ·skip
      refine au (av (az (aSR ?_)))
      refine aU rfl (qFA (off := 3) rfl) ?_
      refine aU rfl (ab 1 tk3 rfl rfl rfl) (aU rfl (bB rfl rfl) (aNn ?_))
      refine ah _ rfl (fun h7 => ?_) (fun h7 => ?_)
      ·skip
       refine aSR ?_
       refine aU rfl (cU (l := [(0, .const (.int .i64 5)), (4, .const (.int .i64 7))]) (zs := [.int .i64 0, .int .i64 0, .int .i64 0, .int .i64 0, .int .i64 0, .bool false]) (pl := [(0, 1), (1, 1), (2, 1), (3, 1), (4, 1), (5, 1)]) (by kernel_rfl) (by kernel_rfl) (by kernel_rfl) rfl rfl rfl) ?_
       refine aj rfl (aT 0 tk65 rfl rfl rfl rfl ?_)
       refine aHK ?_
       refine aA rfl (aNn (aq (aK ?_)))
       refine dZ [] [] rfl Tryz.results41 (cv 0 tk65 rfl rfl rfl) (cT rfl) ?_ (.inr rfl)
       simp at h5 h6 h7; rw [hch, if_neg (by omega), if_neg (by omega), if_pos h7]; rfl
      ·skip
       refine au (av (aSR ?_))
       refine aU rfl (cU (l := []) (zs := [.int .i64 0, .int .i64 0, .int .i64 0, .int .i64 0, .int .i64 0, .bool false]) (pl := [(0, 1), (1, 1), (2, 1), (3, 1), (4, 1), (5, 1)]) (by kernel_rfl) (by kernel_rfl) (by kernel_rfl) rfl rfl rfl) ?_
       refine aj rfl (aT 0 tk65 rfl rfl rfl rfl ?_)
       refine aHK ?_
       refine aA rfl (aNn (aq ?_))
       refine dZ [] [] rfl Tryz.results41 (cv 0 tk65 rfl rfl rfl) (cT rfl) ?_ (.inr rfl)
       simp at h5 h6 h7; rw [hch, if_neg (by omega), if_neg (by omega), if_neg h7]; rfl
end Go.Proofs.YtgmiihmahaahiaaGreatDoor

namespace Go.Proofs.YtgmiihmahaahiaaGreatDoor
open Go.RowKit Go.Lp Go.Sy
open Go.Proofs.Tryz
attribute [local irreducible] aL aB awp aC fwp
section
variable (kp : List (Sl Bool)) (L : List Dfn) (m : Bool)
def wrA (d : Dfn) : Bool := dN kp d && (if m = true then cH kp L d else decide (d.s.bind = 1))
def wrM (d e : Dfn) : Bool := decide (e.s.name = d.s.name) && (dN kp e && (if m = true then cH kp L e else (decide (e.s.bind = 1) && decide (e.s.version = d.s.version))))
def wrB (d : Dfn) : Bool := wrA kp L m d && L.any fun e => wrM kp L m d e && decide (ltC e.p d.p)
end
section
variable {kp : List (Sl Bool)} {L : List Dfn}
theorem qA (hA : Asc L) {d : Dfn} (hd : d ∈ L) (h : cH kp L d = true) : dN kp d = true := by
 unfold cH at h
 rw [Bool.and_eq_true] at h
 exact l0 hA hd h.1
theorem tc (hA : Asc L) : (L.find? (wrB kp L true)).map (·.p) = dQ kp L := by
 unfold dQ
 congr 1
 have key : ∀ l : List Dfn, (∀ d ∈ l, d ∈ L) → l.find? (wrB kp L true) = l.find? fun d => cH kp L d && L.any fun e => cH kp L e && (decide (e.s.name = d.s.name) && decide (ltC e.p d.p)) := by
   intro l
   induction l with
   | nil => intro _; rfl
   | cons d l ih =>
     intro hl
     have e : wrB kp L true d = (cH kp L d && L.any fun e => cH kp L e && (decide (e.s.name = d.s.name) && decide (ltC e.p d.p))) := by
       unfold wrB wrA wrM
       rw [Bool.eq_iff_iff]
       simp only [if_true, Bool.and_eq_true, List.any_eq_true, decide_eq_true_eq]
       constructor
       · rintro ⟨⟨_, h2⟩, e, he, ⟨h3, _, h5⟩, h6⟩; exact ⟨h2, e, he, h5, h3, h6⟩
       · rintro ⟨h2, e, he, h5, h3, h6⟩; exact ⟨⟨qA hA (hl d List.mem_cons_self) h2, h2⟩, e, he, ⟨h3, qA hA he h5, h5⟩, h6⟩
     rw [List.find?_cons, List.find?_cons, e, ih fun d hd => hl d (List.mem_cons_of_mem _ hd)]
 exact key L fun _ h => h
theorem qV (hA : Asc L) : (L.find? (wrB kp L false)).map (·.p) = ea kp L := by
 have key : ∀ l M : List Dfn, l ++ M = L → (l.find? (wrB kp L false)).map (·.p) = ea kp l := by
   intro l
   induction l using fq with
   | nil => intro M _; rfl
   | snoc l d ih =>
     intro M hM
     have hM' : l ++ ([d] ++ M) = L := by rw [← hM]; simp
     rw [gC, ← ih _ hM', List.find?_append]
     have hpw : (l ++ ([d] ++ M)).Pairwise fun a b => ltC a.p b.p := by rw [hM']; exact hA
     have hlt : ∀ e ∈ L, ltC e.p d.p ↔ e ∈ l := by
       intro e he
       rw [List.pairwise_append] at hpw
       rw [← hM'] at he
       rcases List.mem_append.1 he with h | h
       · exact ⟨fun _ => h, fun _ => hpw.2.2 e h d (by simp)⟩
       · constructor
         · intro hl
           exfalso
           rcases List.mem_cons.1 (show e ∈ d :: M from h) with rfl | h2
           · exact dR _ hl
           · have h3 : (d :: M).Pairwise fun a b => ltC a.p b.p := hpw.2.1
             exact dR _ (er hl ((List.pairwise_cons.1 h3).1 e h2))
         · intro h2; exact hpw.2.2 e h2 d (by simp)
     have e : wrB kp L false d = true ↔ (dN kp d = true ∧ d.s.bind = 1 ∧ ∃ e ∈ db kp l d.key, e.s.bind = 1) := by
       unfold wrB wrA wrM
       simp only [Bool.false_eq_true, if_false, Bool.and_eq_true, List.any_eq_true, decide_eq_true_eq]
       constructor
       · rintro ⟨⟨h1, h2⟩, e, he, ⟨h3, h4, h5, h6⟩, h7⟩
         exact ⟨h1, h2, e, iI.2 ⟨(hlt e he).1 h7, h4, by show (e.s.name, e.s.version) = (d.s.name, d.s.version); rw [h3, h6]⟩, h5⟩
       · rintro ⟨h1, h2, e, he, h5⟩
         obtain ⟨g1, g2, g3⟩ := iI.1 he
         have heL : e ∈ L := by rw [← hM']; exact List.mem_append_left _ g1
         exact ⟨⟨h1, h2⟩, e, heL, ⟨congrArg Prod.fst g3, g2, h5, congrArg Prod.snd g3⟩, (hlt e heL).2 g1⟩
     by_cases hw : wrB kp L false d = true
     · rw [if_pos (e.1 hw), List.find?_singleton, if_pos hw]
       cases l.find? (wrB kp L false) <;> rfl
     · rw [if_neg (fun h => hw (e.2 h)), List.find?_singleton, if_neg hw]
       cases l.find? (wrB kp L false) <;> rfl
 exact key L [] (by simp)
theorem zH {m : Bool} {d : Dfn} (h : ∀ e ∈ L, ltC e.p d.p → wrM kp L m d e = false) : wrB kp L m d = false := by
 unfold wrB
 rw [show (L.any fun e => wrM kp L m d e && decide (ltC e.p d.p)) = false from List.any_eq_false.2 fun e he => by
   by_cases hl : ltC e.p d.p
   · rw [h e he hl]; simp
   · simp [hl]]
 simp
end
section
variable {kp : List (Sl Bool)} {L : List Dfn} {m : Bool} {d e : Dfn}
theorem tD : (!dN kp d || m && !cH kp L d || !m && !decide (d.s.bind = 1)) = !wrA kp L m d := by
 unfold wrA
 cases m <;> cases dN kp d <;> simp
theorem zp (h : (!dN kp d || m && !cH kp L d || !m && !decide (d.s.bind = 1)) = true) : wrB kp L m d = false := by
 rw [tD] at h
 unfold wrB
 rw [show wrA kp L m d = false by simpa using h]; rfl
theorem aas (h : (!dN kp d || m && !cH kp L d || !m && !decide (d.s.bind = 1)) = false) : wrA kp L m d = true := by
 rw [tD] at h; simpa using h
theorem yy (h : (!decide (e.s.name = d.s.name) || !dN kp e) = true) : wrM kp L m d e = false := by
 unfold wrM
 rcases Bool.or_eq_true_iff.1 h with h | h
 · simp at h; simp [h]
 · simp at h; simp [h]
theorem wM (h : (!decide (e.s.name = d.s.name) || !dN kp e) = false) : wrM kp L m d e = (m && cH kp L e || !m && decide (e.s.bind = 1) && decide (e.s.version = d.s.version)) := by
 simp at h
 unfold wrM
 rw [decide_eq_true h.1, h.2]
 cases m <;> simp
theorem yJ (h : (!decide (e.s.name = d.s.name) || !dN kp e) = false) (h2 : (m && cH kp L e || !m && decide (e.s.bind = 1) && decide (e.s.version = d.s.version)) = false) : wrM kp L m d e = false := by rw [wM h]; exact h2
theorem xM (h : (!decide (e.s.name = d.s.name) || !dN kp e) = false) (h2 : (m && cH kp L e || !m && decide (e.s.bind = 1) && decide (e.s.version = d.s.version)) = true) : wrM kp L m d e = true := by rw [wM h]; exact h2
end
theorem zk {l : List bg} {a b i k : Nat} {f : Dfn → Bool} (hb : l.length ≤ b ∨ (i ≤ a ∧ k ≤ b)) (hn : ∀ e ∈ cu (a : Int) (l.take b), ltC e.p ⟨(i : Int), (k : Int)⟩ → f e = false) {e : Dfn} (he : e ∈ cu (a : Int) l) (hl : ltC e.p ⟨(i : Int), (k : Int)⟩) : f e = false := by
 obtain ⟨q, hq, hp⟩ := iK he
 refine hn e ?_ hl
 have hqb : q < b := by
   have hql := (List.getElem?_eq_some_iff.1 hq).1
   rcases hb with h | ⟨h1, h2⟩
   · omega
   · rw [hp] at hl
     unfold ltC at hl
     simp only at hl
     omega
 have h1 : (l.take b)[q]? = some e.s := by rw [List.getElem?_take_of_lt hqb]; exact hq
 have := qR (i := (a : Int)) h1
 obtain ⟨ep, es⟩ := e
 dsimp only at hp
 subst hp
 exact this
theorem xZ {os : List ax} {i k : Nat} {e : Dfn} (he : e ∈ aW os) (hl : ltC e.p ⟨(i : Int), (k : Int)⟩) : e ∈ bQ os (i + 1) := by
 obtain ⟨a, b, ha, hab, hp⟩ := eX.1 he
 refine eX.2 ⟨a, b, ?_, hab, hp⟩
 rw [hp] at hl
 unfold ltC at hl
 simp only at hl
 omega
theorem sO (x : br) (hok : ew x.objs.l x.kp.l) (m : Bool) : Con Tryz.prog 40 [x.objs.val, x.kp.val, .bool m] [x.ok] [] fun r ps hp => hp = [] ∧ ∃ (t : Sl Int) (b : Bool), r = .tuple #[t.val, .bool b] ∧ iC ((aW x.objs.l).find? (wrB x.kp.l (aW x.objs.l) m)) t b ∧ ps = [ShF gm t] := by
 have hn5 := hok.n
 refine Con.enter Tryz.func40 rfl (by simp [Tryz.ntmps40]) ?_
 show awp _ _ _ _ ⟨[(0, true, _), (1, true, _), (2, true, _)], _, _⟩
 refine aSR (aA rfl (aA rfl (aNs (aSR (aA rfl (aNn (aw ?_)))))))
 refine aP [0, 1, 2, 8] [0] [] (fun (i : Nat) st => (i ≤ x.objs.l.length ∧ ∀ d ∈ bQ x.objs.l i, wrB x.kp.l (aW x.objs.l) m d = false) ∧ st = ⟨[(0, true, x.objs.val), (1, true, x.kp.val), (2, true, .bool m), (8, true, .int .i64 i)], [x.ok], []⟩) (fun i => x.objs.l.length - i) rfl (⟨0, ⟨Nat.zero_le _, fun d hd => by cases hd⟩, rfl⟩) ?_
 rintro i st ⟨⟨hi, hno⟩, rfl⟩
 refine az (aSR (aM rfl (aM rfl (aU rfl (aZ Tryz.underlying22 rfl) (aU rfl (bt rfl rfl) (aNn ?_))))))
 refine ah _ rfl (fun h1 => ?_) (fun h1 => ?_)
 ·skip
  have hi' : i < x.objs.l.length := by simp at h1; omega
  have ho := bN hi'
  generalize hoo : elt x.objs.l (i : Int) = o at ho
  have ho14 := hok.sy o (List.mem_of_getElem? ho)
  refine au (av (az (aw (aSR (aA rfl (aNn (aw ?_)))))))
  refine aP [0, 1, 2, 8, 9] [0] [] (fun (k : Nat) st => (k ≤ o.syms.l.length ∧ ∀ d ∈ cu (i : Int) (o.syms.l.take k), wrB x.kp.l (aW x.objs.l) m d = false) ∧ st = ⟨[(0, true, x.objs.val), (1, true, x.kp.val), (2, true, .bool m), (8, true, .int .i64 i), (9, true, .int .i64 k)], [x.ok], []⟩) (fun k => o.syms.l.length - k) rfl (⟨0, ⟨Nat.zero_le _, fun d hd => by simp [cu] at hd⟩, rfl⟩) ?_
  rintro k st ⟨⟨hk, hnk⟩, rfl⟩
  refine az (aSR (aM rfl (aM rfl (aM rfl ?_))))
  refine ck true rfl rfl (fun _ => ai Tryz.underlying22 tk61 rfl ((br.f_objs (.of (an 0 rfl)))) rfl (aJ ho) rfl rfl) (fun h => absurd h (by decide)) (fun ⟨b5_3, o5_3⟩ => ?_)
  refine aU rfl (qFA (off := 2) rfl) ?_
  refine aU rfl (aF (o := 2) tk51 rfl (an 0 rfl) rfl rfl) (aU rfl (aZ Tryz.underlying51 rfl) (aU rfl (bt rfl rfl) (aNn ?_)))
  refine ah _ rfl (fun h2 => ?_) (fun h2 => ?_)
  ·skip
   have hk' : k < o.syms.l.length := by simp at h2; omega
   obtain ⟨s, hsk⟩ : ∃ s, o.syms.l[k]? = some s := ⟨_, List.getElem?_eq_getElem hk'⟩
   have hnext : wrB x.kp.l (aW x.objs.l) m ⟨⟨(i : Int), (k : Int)⟩, s⟩ = false → ∀ d ∈ cu (i : Int) (o.syms.l.take (k + 1)), wrB x.kp.l (aW x.objs.l) m d = false := fun h d hd => by
     rw [dz hsk, List.mem_append] at hd
     rcases hd with hd | hd
     · exact hnk d hd
     · rw [List.mem_singleton.1 hd]; exact h
   refine au (av (az (aw (aSR (aM rfl (aM rfl ?_))))))
   refine ck true rfl rfl (fun _ => ai Tryz.underlying22 tk61 rfl ((br.f_objs (.of (an 1 rfl)))) rfl (aJ ho) rfl rfl) (fun h => absurd h (by decide)) (fun ⟨b7_2, o7_2⟩ => ?_)
   refine aU rfl (qFA (off := 2) rfl) ?_
   refine aU rfl (aF (o := 2) tk51 rfl (an 0 rfl) rfl rfl) (aM rfl ?_)
   refine ck true rfl rfl (fun _ => ai Tryz.underlying51 tk63 rfl ((ax.f_syms (Ent.all (br.f_objsA (.of (an 2 rfl))) ho))) rfl (aJ hsk) rfl rfl) (fun h => absurd h (by decide)) (fun ⟨b7_6, o7_6⟩ => ?_)
   refine aU rfl (aF (o := 0) tk63 rfl (an 0 rfl) rfl rfl) ?_
   refine aj (q := true) rfl (bp (zs := [.string .empty, .string .empty, .bool false, .int .i64 0, .int .i64 0, .int .i64 0, .int .i64 0, .int .i64 0, .int .i64 0, .int .i64 0]) (by kernel_rfl) rfl (fun b7_8 => ?_))
   refine aHN ?_
   refine aj rfl (aT 0 tk63 rfl rfl rfl rfl ?_)
   refine aHK ?_
   refine aNs (aSR (aM rfl (aM rfl (aM rfl (aM rfl ?_)))))
   refine aU rfl (bw (by kernel_rfl) rfl (fun w S fp hst => (lC x hok i k o s ho hsk).quiet1 (an 3 rfl) hst)) ?_
   refine aU rfl (bT rfl) (aM rfl (aG rfl rfl (fun hc => ar rfl) (aG rfl rfl (fun hc => ar (aa rfl hc)) (aG rfl rfl (fun hc => ar rfl) (aG rfl rfl (fun hc => ar rfl) (aG rfl rfl (fun hc => ar rfl) (aG rfl rfl (fun hc => ar rfl) ?_)))))))
   refine aG rfl rfl (fun hc => bw (by kernel_rfl) (aI (aa rfl hc) (aI (aa rfl hc) (aI (aa rfl hc) (aI (aa rfl hc) rfl)))) (fun w S fp hst => (kE x hok i k o s ho hsk).quiet1 (an 3 rfl) hst)) ?_
   refine aG rfl rfl (fun hc => bT (aa rfl hc)) (aG rfl rfl (fun hc => bn (aa rfl hc) rfl (fun h => gt hc h)) (aU rfl (ct rfl rfl (fun h => gf rfl h)) (aM rfl (aG rfl rfl (fun hc => ar rfl) (aG rfl rfl (fun hc => bT (aa rfl hc)) (aG rfl rfl (fun hc => ar (aa rfl hc)) ?_))))))
   refine aG rfl rfl (fun hc => qFA (off := 3) rfl) ?_
   refine aG rfl rfl (fun hc => ab 0 tk3 (aa rfl hc) rfl rfl) (aG rfl rfl (fun hc => cN (aa rfl hc) rfl) (aG rfl rfl (fun hc => bn (aa rfl hc) rfl (fun h => gt hc h)) (aU rfl (ct rfl rfl (fun h => gf rfl h)) (aNn ?_))))
   refine ah _ rfl (fun h3 => ?_) (fun h3 => ?_)
   ·skip
    refine aR (aS (aY (av (ae (aM rfl ?_)))))
    refine aU rfl (bf rfl rfl (by omega)) ?_
    refine aA rfl (aNn ?_)
    refine ⟨[0, 1, 2, 8, 9], [0], [], rfl, ?_⟩
    exact ⟨k + 1, ⟨⟨by omega, hnext (zp h3)⟩, rfl⟩, by omega⟩
   ·skip
    have hwa := aas h3
    refine au (av (aSR (aA rfl (aNn (aw ?_)))))
    refine aP [0, 1, 2, 8, 9, 10, 11] [0] [0] (fun (a : Nat) st => (a ≤ i + 1 ∧ ∀ e ∈ bQ x.objs.l a, ltC e.p ⟨(i : Int), (k : Int)⟩ → wrM x.kp.l (aW x.objs.l) m ⟨⟨(i : Int), (k : Int)⟩, s⟩ e = false) ∧ st = ⟨[(0, true, x.objs.val), (1, true, x.kp.val), (2, true, .bool m), (8, true, .int .i64 i), (9, true, .int .i64 k), (10, true, .pointer (some ⟨b7_8, 0, none⟩)), (11, true, .int .i64 a)], [x.ok], [Box b7_8 63 s.vs]⟩) (fun a => i + 1 - a) rfl (⟨0, ⟨Nat.zero_le _, fun d hd => by cases hd⟩, rfl⟩) ?_
    rintro a st ⟨⟨ha0, hna⟩, rfl⟩
    refine az (aSR (aM rfl (aM rfl (aU rfl (eE rfl rfl) (aNn ?_)))))
    refine ah _ rfl (fun h4 => ?_) (fun h4 => ?_)
    ·skip
     have ha' : a ≤ i := by simp at h4; omega
     have hoa := bN (l := x.objs.l) (i := a) (by omega)
     generalize hooa : elt x.objs.l (a : Int) = oa at hoa
     have hoa14 := hok.sy oa (List.mem_of_getElem? hoa)
     refine au (av (az (aw (aSR (aA rfl (aNn (aw ?_)))))))
     refine aP [0, 1, 2, 8, 9, 10, 11, 12] [0] [0] (fun (b : Nat) st => (b ≤ oa.syms.l.length ∧ ∀ e ∈ cu (a : Int) (oa.syms.l.take b), ltC e.p ⟨(i : Int), (k : Int)⟩ → wrM x.kp.l (aW x.objs.l) m ⟨⟨(i : Int), (k : Int)⟩, s⟩ e = false) ∧ st = ⟨[(0, true, x.objs.val), (1, true, x.kp.val), (2, true, .bool m), (8, true, .int .i64 i), (9, true, .int .i64 k), (10, true, .pointer (some ⟨b7_8, 0, none⟩)), (11, true, .int .i64 a), (12, true, .int .i64 b)], [x.ok], [Box b7_8 63 s.vs]⟩) (fun b => oa.syms.l.length - b) rfl (⟨0, ⟨Nat.zero_le _, fun d hd => by simp [cu] at hd⟩, rfl⟩) ?_
     rintro b st ⟨⟨hb0, hnb⟩, rfl⟩
     refine az (aSR (aM rfl (aM rfl (aM rfl ?_))))
     refine ck true rfl rfl (fun _ => ai Tryz.underlying22 tk61 rfl ((br.f_objs (.of (an 0 rfl)))) rfl (aJ hoa) rfl rfl) (fun h => absurd h (by decide)) (fun ⟨b13_3, o13_3⟩ => ?_)
     refine aU rfl (qFA (off := 2) rfl) ?_
     refine aU rfl (aF (o := 2) tk51 rfl (an 0 rfl) rfl rfl) (aU rfl (aZ Tryz.underlying51 rfl) (aU rfl (bt rfl rfl) (aM rfl (aG rfl rfl (fun hc => ar rfl) (aG rfl rfl (fun hc => ar rfl) (aG rfl rfl (fun hc => bt (aa rfl hc) (aa rfl hc)) (aG rfl rfl (fun hc => ar (aa rfl hc)) (aG rfl rfl (fun hc => ar rfl) (aG rfl rfl (fun hc => ar rfl) (aG rfl rfl (fun hc => bt (aa rfl hc) (aa rfl hc)) (aG rfl rfl (fun hc => ct (aa rfl hc) rfl (fun h => gf hc h)) (aU rfl (bn rfl rfl (fun h => gt rfl h)) (aNn ?_)))))))))))))
     refine ah _ rfl (fun h5 => ?_) (fun h5 => ?_)
     ·skip
      have hb' : b < oa.syms.l.length ∧ (a < i ∨ b < k) := by simp at h5; omega
      obtain ⟨u, hub⟩ : ∃ u, oa.syms.l[b]? = some u := ⟨_, List.getElem?_eq_getElem hb'.1⟩
      have hnx : wrM x.kp.l (aW x.objs.l) m ⟨⟨(i : Int), (k : Int)⟩, s⟩ ⟨⟨(a : Int), (b : Int)⟩, u⟩ = false → ∀ e ∈ cu (a : Int) (oa.syms.l.take (b + 1)), ltC e.p ⟨(i : Int), (k : Int)⟩ → wrM x.kp.l (aW x.objs.l) m ⟨⟨(i : Int), (k : Int)⟩, s⟩ e = false := fun h e he hl => by
        rw [dz hub, List.mem_append] at he
        rcases he with he | he
        · exact hnb e he hl
        · rw [List.mem_singleton.1 he]; exact h
      refine au (av (az (aw (aSR (aM rfl (aM rfl ?_))))))
      refine ck true rfl rfl (fun _ => ai Tryz.underlying22 tk61 rfl ((br.f_objs (.of (an 1 rfl)))) rfl (aJ hoa) rfl rfl) (fun h => absurd h (by decide)) (fun ⟨b15_2, o15_2⟩ => ?_)
      refine aU rfl (qFA (off := 2) rfl) ?_
      refine aU rfl (aF (o := 2) tk51 rfl (an 0 rfl) rfl rfl) (aM rfl ?_)
      refine ck true rfl rfl (fun _ => ai Tryz.underlying51 tk63 rfl ((ax.f_syms (Ent.all (br.f_objsA (.of (an 2 rfl))) hoa))) rfl (aJ hub) rfl rfl) (fun h => absurd h (by decide)) (fun ⟨b15_6, o15_6⟩ => ?_)
      refine aU rfl (aF (o := 0) tk63 rfl (an 0 rfl) rfl rfl) ?_
      refine aj (q := true) rfl (bp (zs := [.string .empty, .string .empty, .bool false, .int .i64 0, .int .i64 0, .int .i64 0, .int .i64 0, .int .i64 0, .int .i64 0, .int .i64 0]) (by kernel_rfl) rfl (fun b15_8 => ?_))
      refine aHN ?_
      refine aj rfl (aT 1 tk63 rfl rfl rfl rfl ?_)
      refine aHK ?_
      refine aNs (aSR ?_)
      refine aU rfl (qFA (off := 0) rfl) ?_
      refine aU rfl (ab 1 tk9 rfl rfl rfl) ?_
      refine aU rfl (qFA (off := 0) rfl) ?_
      refine aU rfl (ab 0 tk9 rfl rfl rfl) (aU rfl (fH rfl rfl) (aM rfl (aG rfl rfl (fun hc => ar rfl) (aG rfl rfl (fun hc => ar rfl) (aG rfl rfl (fun hc => ar rfl) (aG rfl rfl (fun hc => ar rfl) ?_))))))
      refine aG rfl rfl (fun hc => bw (by kernel_rfl) (aI (aa rfl hc) (aI (aa rfl hc) (aI (aa rfl hc) (aI (aa rfl hc) rfl)))) (fun w S fp hst => (lC x hok a b oa u hoa hub).quiet1 (an 3 rfl) hst)) ?_
      refine aG rfl rfl (fun hc => bT (aa rfl hc)) (aU rfl (ct rfl rfl (fun h => gf rfl h)) (aNn ?_))
      refine ah _ rfl (fun h6 => ?_) (fun h6 => ?_)
      ·skip
       refine aR (aS (aY (av (ae (aM rfl ?_)))))
       refine aU rfl (bf rfl rfl (by omega)) ?_
       refine aA rfl (aNn ?_)
       refine ⟨[0, 1, 2, 8, 9, 10, 11, 12], [0], [0], rfl, ?_⟩
       exact ⟨b + 1, ⟨⟨by omega, hnx (yy h6)⟩, rfl⟩, by omega⟩
      ·skip
       refine au (av (aSR (aM rfl (aM rfl (aG rfl rfl (fun hc => ar rfl) (aG rfl rfl (fun hc => ar rfl) (aG rfl rfl (fun hc => ar rfl) (aG rfl rfl (fun hc => ar rfl) ?_))))))))
       refine aG rfl rfl (fun hc => bw (by kernel_rfl) (aI (aa rfl hc) (aI (aa rfl hc) (aI (aa rfl hc) (aI (aa rfl hc) rfl)))) (fun w S fp hst => (kE x hok a b oa u hoa hub).quiet1 (an 3 rfl) hst)) ?_
       refine aU rfl (bn rfl rfl (fun h => gt rfl h)) (aM rfl (aG rfl rfl (fun hc => ar rfl) (aG rfl rfl (fun hc => bT (aa rfl hc)) (aG rfl rfl (fun hc => ar (aa rfl hc)) ?_))))
       refine aG rfl rfl (fun hc => qFA (off := 3) rfl) ?_
       refine aG rfl rfl (fun hc => ab 1 tk3 (aa rfl hc) rfl rfl) (aG rfl rfl (fun hc => bB (aa rfl hc) rfl) (aG rfl rfl (fun hc => bn (aa rfl hc) rfl (fun h => gt hc h)) (aG rfl rfl (fun hc => ar (aa rfl hc)) ?_)))
       refine aG rfl rfl (fun hc => qFA (off := 1) rfl) ?_
       refine aG rfl rfl (fun hc => ab 1 tk9 (aa rfl hc) rfl rfl) ?_
       refine aG rfl rfl (fun hc => qFA (off := 1) rfl) ?_
       refine aG rfl rfl (fun hc => ab 0 tk9 (aa rfl hc) rfl rfl) (aG rfl rfl (fun hc => cZ (aa rfl hc) (aa rfl hc)) (aG rfl rfl (fun hc => bn (aa rfl hc) rfl (fun h => gt hc h)) (aU rfl (ct rfl rfl (fun h => gf rfl h)) (aNn ?_))))
       refine ah _ rfl (fun h7 => ?_) (fun h7 => ?_)
       ·skip
        have hwb : wrB x.kp.l (aW x.objs.l) m ⟨⟨(i : Int), (k : Int)⟩, s⟩ = true := by
          unfold wrB
          rw [hwa, Bool.true_and, List.any_eq_true]
          refine ⟨⟨⟨(a : Int), (b : Int)⟩, u⟩, eX.2 ⟨a, b, by omega, by rw [hooa]; exact hub, rfl⟩, ?_⟩
          rw [xM h6 h7, Bool.true_and, decide_eq_true_eq]
          unfold ltC; simp only; omega
        have hfi := j7 ho hsk hno hnk hwb
        refine aSR (aM rfl (aM rfl ?_))
        refine aj (q := true) rfl (cG (zs := [.int .i64 0]) (l := [(0, .tmp 134), (1, .tmp 135)]) el90 (by kernel_rfl) (by decide) (by decide) (by decide) rfl rfl rfl (.more rfl (.v rfl .nil) (.more rfl (.v rfl .nil) .nil)) rfl rfl (fun v18_2 => ?_))
        refine aHN ?_
        refine aA rfl (aA rfl (aNn (dr 2 rfl (aq (bj (aK ?_))))))
        refine aK (bj (bj (aK (aK (bj (bj (aK (aK (bj (bj (aK (aK (bj (aK ?_))))))))))))))
        refine jF [4] [] rfl Tryz.results40 rfl rfl ?_ (.inr rfl)
        refine ⟨rfl, ⟨v18_2, 2, [(i : Int), (k : Int)]⟩, true, rfl, ?_, rfl⟩
        rw [hfi]
        exact ⟨rfl, fun e he => by rw [← Option.some.inj he]⟩
       ·skip
        refine au (bu (av (ae (aM rfl ?_))))
        refine aU rfl (bf rfl rfl (by omega)) ?_
        refine aA rfl (aNn ?_)
        refine ⟨[0, 1, 2, 8, 9, 10, 11, 12], [0], [0], rfl, ?_⟩
        exact ⟨b + 1, ⟨⟨by omega, hnx (yJ h6 h7)⟩, rfl⟩, by omega⟩
     ·skip
      have hbe : oa.syms.l.length ≤ b ∨ (i ≤ a ∧ k ≤ b) := by simp at h5; omega
      refine aR (aS (aS (aY (bu (av (ae (aM rfl ?_)))))))
      refine aU rfl (bf rfl rfl (by omega)) ?_
      refine aA rfl (aNn ?_)
      refine ⟨[0, 1, 2, 8, 9, 10, 11], [0], [0], rfl, ?_⟩
      refine ⟨a + 1, ⟨⟨by omega, fun e he hl => ?_⟩, rfl⟩, by omega⟩
      rw [cq, hooa, List.mem_append] at he
      rcases he with he | he
      · exact hna e he hl
      · exact zk hbe hnb he hl
    ·skip
     have hai : a = i + 1 := by simp at h4; omega
     subst hai
     refine aR (aS (aS (aY (bu (av (ae (aM rfl ?_)))))))
     refine aU rfl (bf rfl rfl (by omega)) ?_
     refine aA rfl (aNn ?_)
     refine ⟨[0, 1, 2, 8, 9], [0], [], rfl, ?_⟩
     exact ⟨k + 1, ⟨⟨by omega, hnext (zH fun e he hl => hna e (xZ he hl) hl)⟩, rfl⟩, by omega⟩
  ·skip
   have hkl : o.syms.l.length ≤ k := by simp at h2; omega
   refine aR (aS (aS (aY (bu (av (ae (aM rfl ?_)))))))
   refine aU rfl (bf rfl rfl (by omega)) ?_
   refine aA rfl (aNn ?_)
   refine ⟨[0, 1, 2, 8], [0], [], rfl, ?_⟩
   refine ⟨i + 1, ⟨⟨by omega, fun d hd => ?_⟩, rfl⟩, by omega⟩
   rw [cq, hoo, List.mem_append] at hd
   rcases hd with hd | hd
   · exact hno d hd
   · rw [List.take_of_length_le hkl] at hnk; exact hnk d hd
 ·skip
  have hil : i = x.objs.l.length := by simp at h1; omega
  subst hil
  refine aR (aS (aS (aY (av (aSR (aA rfl (aA rfl (aNn ?_))))))))
  refine eC (ShF gm ⟨none, 0, []⟩) (fun _ _ _ => .e none 0 (by unfold maxLen; omega)) ?_
  refine aq ?_
  refine jF [1] [] rfl Tryz.results40 rfl rfl ?_ (.inr rfl)
  refine ⟨rfl, ⟨none, 0, []⟩, false, rfl, ?_, rfl⟩
  have hnf : (aW x.objs.l).find? (wrB x.kp.l (aW x.objs.l) m) = none := List.find?_eq_none.2 fun d hd => by rw [hno d hd]; simp
  rw [hnf]
  exact ⟨rfl, fun e he => by cases he⟩
end Go.Proofs.YtgmiihmahaahiaaGreatDoor

namespace Go.Sy
open Go.RowKit
theorem zy {P : Program} {s : Sta} {fn : Func} {t u x y : Nat} {v1 v2 v3 v4 : Value} {R : Value → List Per → List Res → Prop} {e : Exit} (lp lh : List Nat) (ok : okH s.hp lh = true) (hr : fn.results = #[.tmp t, .tmp u, .tmp x, .tmp y]) (h1 : look s.env t = some (true, v1)) (h2 : look s.env u = some (true, v2)) (h3 : look s.env x = some (true, v3)) (h4 : look s.env y = some (true, v4)) (h : R (.tuple #[v1, v2, v3, v4]) (fA s.ps lp) (bX s.hp lh)) (he : e = .normal ∨ e = .ret) : kO P fn R e s :=
 ⟨he, .tuple #[v1, v2, v3, v4], lp, lh, ok, fun a w S fp hst henv => by
   have g1 := henv t true v1 h1; have g2 := henv u true v2 h2; have g3 := henv x true v3 h3; have g4 := henv y true v4 h4
   simp only [cond_true] at g1 g2 g3 g4
   rw [← g1, ← g2, ← g3, ← g4]
   simp [results, hr], h⟩
end Go.Sy
namespace Go.Proofs.YtgmiihmahaahiaaGreatDoor
open Go.RowKit Go.Lp Go.Sy
open Go.Proofs.Tryz
attribute [local irreducible] aL aB awp aC fwp
abbrev ChG (S : Sl (Sl aO)) : Per := cx (bP (ShF aO.row) S.l) (ShF slR S)
theorem tB : ∀ (w : World) (S : bz), (ChG ⟨none, 0, []⟩).holds w S := fun w S => ⟨fun _ h => (by cases h), .e none 0 (by unfold maxLen; omega)⟩
section
variable {kp : List (Sl Bool)} {L : List Dfn} {sv : ByteArray → ByteArray → Bool} {lf : ByteArray → ByteArray → Int} {lib : Bool}
theorem zU {p : aD} (h : ea kp L = some p) : cI kp L sv lf lib = some (4, p) := by unfold cI; rw [h]
theorem aad {p : aD} (h0 : ea kp L = none) (h : dQ kp L = some p) : cI kp L sv lf lib = some (4, p) := by unfold cI; rw [h0, h]
theorem aak {d : Dfn} (h0 : ea kp L = none) (h1 : dQ kp L = none) (h : L.find? (fun d => decide (bS kp L sv lf lib d = none)) = some d) : cI kp L sv lf lib = some (3, d.p) := by unfold cI jw; rw [h0, h1, h]; rfl
theorem aao (h0 : ea kp L = none) (h1 : dQ kp L = none) (h : ∀ d ∈ L, bS kp L sv lf lib d ≠ none) : cI kp L sv lf lib = none := by
 unfold cI jw; rw [h0, h1, List.find?_eq_none.2 fun d hd => by simpa using h d hd]; rfl
theorem uK (l : List Dfn) (d : Dfn) : iy kp L sv lf lib (l ++ [d]) = iy kp L sv lf lib l ++ [(bS kp L sv lf lib d).getD ff] := by unfold iy; rw [List.map_append]; rfl
end
theorem w4 {o : Option Dfn} {t : Sl Int} {b : Bool} (h : iC o t b) (hb : b = true) : ∃ e, o = some e ∧ t.l = prJ e := by
 cases o with
 | none => rw [h.1] at hb; cases hb
 | some e => exact ⟨e, rfl, h.2 e rfl⟩
theorem xi {o : Option Dfn} {t : Sl Int} {b : Bool} (h : iC o t b) (hb : b = false) : o = none := by
 cases o with
 | none => rfl
 | some e => rw [h.1] at hb; cases hb
theorem wN {A B : List (Sl aO)} {i : Nat} {a b : Sl aO} (h : A.map (·.l) = B.map (·.l)) (ha : A[i]? = some a) (hb : B[i]? = some b) : a.l = b.l := by
 have h1 : (A.map (·.l))[i]? = some a.l := by rw [List.getElem?_map, ha]; rfl
 rw [h, List.getElem?_map, hb] at h1
 exact (Option.some.inj h1).symm
theorem uu (x : br) (hok : ew x.objs.l x.kp.l) (hz : oS x) : Con Tryz.prog 14 [x.objs.val, x.kp.val, .bool x.lib, x.ifs.val, x.vs.val] [x.ok] [] fun r ps hp => hp = [] ∧ ∃ S : Sl (Sl aO), ps = [ChG S] ∧
   r = .tuple #[S.val, .int .i64 (lB (cI x.kp.l (aW x.objs.l) (di x.vs.l) (cA x.ifs.l) x.lib)), .int .i64 (kz (cI x.kp.l (aW x.objs.l) (di x.vs.l) (cA x.ifs.l) x.lib)).obj, .int .i64 (kz (cI x.kp.l (aW x.objs.l) (di x.vs.l) (cA x.ifs.l) x.lib)).sym] ∧
   S.l.map (·.l) = if cI x.kp.l (aW x.objs.l) (di x.vs.l) (cA x.ifs.l) x.lib = none then iE x.objs.l x.kp.l (di x.vs.l) (cA x.ifs.l) x.lib else [] := by
 have hn5 := hok.n
 have hA : Asc (aW x.objs.l) := ed _ _
 have hfl := gW hok
 refine Con.enter Tryz.func14 rfl (by simp [Tryz.ntmps14]) ?_
 show awp _ _ _ _ ⟨[(0, true, _), (1, true, _), (2, true, _), (3, true, _), (4, true, _)], _, _⟩
 refine aSR (aA rfl (aA rfl (aA rfl (aA rfl (aNs (aSR (aA rfl (aNn (aw ?_)))))))))
 refine aP [0, 1, 2, 3, 4, 14] [0] [] (fun (p : Nat) st => (p ≤ 2 ∧ (0 < p → ea x.kp.l (aW x.objs.l) = none) ∧ (1 < p → dQ x.kp.l (aW x.objs.l) = none)) ∧ st = ⟨[(0, true, x.objs.val), (1, true, x.kp.val), (2, true, .bool x.lib), (3, true, x.ifs.val), (4, true, x.vs.val), (14, true, .int .i64 p)], [x.ok], []⟩) (fun p => 2 - p) rfl (⟨0, ⟨by omega, fun h => by omega, fun h => by omega⟩, rfl⟩) ?_
 rintro p st ⟨⟨hp, ht1, ht2⟩, rfl⟩
 refine az (aSR (aM rfl (aU rfl (bt rfl rfl) (aNn ?_))))
 refine ah _ rfl (fun h1 => ?_) (fun h1 => ?_)
 ·skip
  have hp' : p = 0 ∨ p = 1 := by simp at h1; omega
  refine au (av (az (aw (aSR (aM rfl (aM rfl (aM rfl (aU rfl (bB rfl rfl) ?_))))))))
  refine aj (q := true) rfl (bF [0] [] (by kernel_rfl) rfl rfl rfl rfl (sO x hok _) ?_)
  rintro _ _ _ ⟨rfl, t, b, rfl, hb, rfl⟩
  refine aST ?_
  refine aM rfl (aU rfl (bc rfl rfl) (aU rfl (bc rfl rfl) (aA rfl (aA rfl (aNn (aSR (aM rfl (aNn ?_))))))))
  refine ah _ rfl (fun h2 => ?_) (fun h2 => ?_)
  ·skip
   obtain ⟨e, hfe, hte⟩ := w4 hb (by simpa using h2)
   have hbe : cI x.kp.l (aW x.objs.l) (di x.vs.l) (cA x.ifs.l) x.lib = some (4, e.p) := by
     rcases hp' with rfl | rfl
     · exact zU (by have := qV (kp := x.kp.l) hA; rw [← this]; exact congrArg (Option.map (·.p)) hfe)
     · exact aad (ht1 (by omega)) (by have := tc (kp := x.kp.l) hA; rw [← this]; exact congrArg (Option.map (·.p)) hfe)
   refine az ?_
   refine aX [] (by kernel_rfl) ?_
   show aB _ _ _ _ _ 10 #[false, false, false, false, false, false, false, false, false, false] _
   refine bV 0 rfl rfl (ar rfl) ?_
   refine cD 1 rfl (by kernel_rfl) true rfl rfl (fun _ => ai Tryz.underlying90 tk3 rfl ((.of (an 0 rfl))) rfl (show (t.l.map gm)[0]? = some [D.v (.int .i64 e.p.obj)] from by rw [hte]; rfl) rfl rfl) (fun h => absurd h (by decide)) (fun ⟨b6_1, o6_1⟩ => ?_)
   refine bV 2 rfl rfl (aF (o := 0) tk3 rfl (an 0 rfl) rfl rfl) ?_
   refine bV 3 rfl rfl (ar rfl) ?_
   refine cD 4 rfl (by kernel_rfl) true rfl rfl (fun _ => ai Tryz.underlying90 tk3 rfl ((.of (an 1 rfl))) rfl (show (t.l.map gm)[1]? = some [D.v (.int .i64 e.p.sym)] from by rw [hte]; rfl) rfl rfl) (fun h => absurd h (by decide)) (fun ⟨b6_4, o6_4⟩ => ?_)
   refine bV 5 rfl rfl (aF (o := 0) tk3 rfl (an 0 rfl) rfl rfl) ?_
   refine bV 6 rfl rfl (bJ rfl) ?_
   refine bV 7 rfl rfl (bJ rfl) ?_
   refine bV 8 rfl rfl (bJ rfl) ?_
   refine bV 9 rfl rfl (bJ rfl) ?_
   refine bD (by kernel_rfl) ?_
   refine av (eC (ChG ⟨none, 0, []⟩) (fun w S _ => tB w S) (aq (bj (aK (aK (bj (aK ?_)))))))
   refine zy [4] [] rfl Tryz.results14 rfl rfl rfl rfl ?_ (.inr rfl)
   refine ⟨rfl, ⟨none, 0, []⟩, rfl, ?_, ?_⟩
   · rw [hbe]; rfl
   · rw [hbe, if_neg (by simp)]; rfl
  ·skip
   have hfn := xi hb (by simpa using h2)
   refine au (bu (av (ae (aM rfl ?_))))
   refine aU rfl (bf rfl rfl (by omega)) ?_
   refine aA rfl (aNn ?_)
   refine ⟨[0, 1, 2, 3, 4, 14], [0], [], rfl, ?_⟩
   refine ⟨p + 1, ⟨⟨by omega, fun _ => ?_, fun h => ?_⟩, rfl⟩, by omega⟩
   · rcases hp' with rfl | rfl
     · have := qV (kp := x.kp.l) hA; rw [← this]; exact congrArg (Option.map (·.p)) hfn
     · exact ht1 (by omega)
   · obtain rfl : p = 1 := by omega
     have := tc (kp := x.kp.l) hA; rw [← this]; exact congrArg (Option.map (·.p)) hfn
 ·skip
  have hp2 : p = 2 := by simp at h1; omega
  have ht1 := ht1 (by omega)
  have ht2 := ht2 (by omega)
  refine aR (aS (aS (aY (av (aSR (aA rfl ?_))))))
  refine aNs (az (eb 66 1 ?_))
  show awp _ _ _ _ ⟨_, _, [_]⟩
  refine eC (bP (ShF aO.row) ([] : List (Sl aO))) (fun w S hps y hy => by cases hy) ?_
  refine ae (aA rfl (aNn (aw ?_)))
  refine aP [0, 1, 2, 3, 4, 17, 18] [1, 0] [0] (fun (p : Nat × List (Sl aO) × Value) st => (p.1 ≤ x.objs.l.length ∧ p.2.1.map (·.l) = ((List.range p.1).map fun i : Nat => iy x.kp.l (aW x.objs.l) (di x.vs.l) (cA x.ifs.l) x.lib (cu (i : Int) (elt x.objs.l (i : Int)).syms.l)) ∧ ∀ d ∈ bQ x.objs.l p.1, bS x.kp.l (aW x.objs.l) (di x.vs.l) (cA x.ifs.l) x.lib d ≠ none) ∧ st = ⟨[(0, true, x.objs.val), (1, true, x.kp.val), (2, true, .bool x.lib), (3, true, x.ifs.val), (4, true, x.vs.val), (17, true, p.2.2), (18, true, .int .i64 p.1)], [bP (ShF aO.row) p.2.1, x.ok], [bA p.2.2 66 1 (p.2.1.map slR)]⟩) (fun p => x.objs.l.length - p.1) rfl (⟨(0, [], .slice none 0 0), ⟨Nat.zero_le _, rfl, fun d hd => by cases hd⟩, rfl⟩) ?_
  rintro ⟨i, outs, vo⟩ st ⟨⟨hi, hout, hno⟩, rfl⟩
  dsimp only at hi hout hno
  refine az (aSR (aM rfl (aM rfl (aU rfl (aZ Tryz.underlying22 rfl) (aU rfl (bt rfl rfl) (aNn ?_))))))
  refine ah _ rfl (fun h3 => ?_) (fun h3 => ?_)
  ·skip
   have hi' : i < x.objs.l.length := by simp at h3; omega
   have ho := bN hi'
   generalize hoo : elt x.objs.l (i : Int) = o at ho
   have ho14 := hok.sy o (List.mem_of_getElem? ho)
   have hol : outs.length ≤ 5 := by have := congrArg List.length hout; rw [List.length_map, List.length_map, List.length_range] at this; omega
   refine au (av (az (aw (aSR (aA rfl (cr ?_))))))
   refine av (az (az (eb 65 6 ?_)))
   show awp _ _ _ _ ⟨_, _, [_, _]⟩
   refine ae (aA rfl (aNn (aw ?_)))
   refine aP [0, 1, 2, 3, 4, 17, 18, 19, 20] [1, 0] [0, 1] (fun (p : Nat × Value) st => (p.1 ≤ o.syms.l.length ∧ ∀ d ∈ cu (i : Int) (o.syms.l.take p.1), bS x.kp.l (aW x.objs.l) (di x.vs.l) (cA x.ifs.l) x.lib d ≠ none) ∧ st = ⟨[(0, true, x.objs.val), (1, true, x.kp.val), (2, true, .bool x.lib), (3, true, x.ifs.val), (4, true, x.vs.val), (17, true, vo), (18, true, .int .i64 i), (19, true, p.2), (20, true, .int .i64 p.1)], [bP (ShF aO.row) outs, x.ok], [bA vo 66 1 (outs.map slR), bA p.2 65 6 ((iy x.kp.l (aW x.objs.l) (di x.vs.l) (cA x.ifs.l) x.lib (cu (i : Int) (o.syms.l.take p.1))).map aO.row)]⟩) (fun p => o.syms.l.length - p.1) rfl (⟨(0, .slice none 0 0), ⟨Nat.zero_le _, fun d hd => by simp [cu] at hd⟩, by simp [cu, iy]; rfl⟩) ?_
   rintro ⟨k, vl⟩ st ⟨⟨hk, hnk⟩, rfl⟩
   dsimp only at hk hnk
   have hll : (iy x.kp.l (aW x.objs.l) (di x.vs.l) (cA x.ifs.l) x.lib (cu (i : Int) (o.syms.l.take k))).length ≤ 14 := by unfold iy cu; simp; omega
   refine az (aSR (aM rfl (aM rfl (aM rfl ?_))))
   refine ck true rfl rfl (fun _ => ai Tryz.underlying22 tk61 rfl ((br.f_objs (.of (an 1 rfl)))) rfl (aJ ho) rfl rfl) (fun h => absurd h (by decide)) (fun ⟨b13_3, o13_3⟩ => ?_)
   refine aU rfl (qFA (off := 2) rfl) ?_
   refine aU rfl (aF (o := 2) tk51 rfl (an 0 rfl) rfl rfl) (aU rfl (aZ Tryz.underlying51 rfl) (aU rfl (bt rfl rfl) (aNn ?_)))
   refine ah _ rfl (fun h4 => ?_) (fun h4 => ?_)
   ·skip
    have hk' : k < o.syms.l.length := by simp at h4; omega
    obtain ⟨s, hsk⟩ : ∃ s, o.syms.l[k]? = some s := ⟨_, List.getElem?_eq_getElem hk'⟩
    refine au (av (az (aw (aSR (aM rfl (aM rfl (aM rfl (aM rfl (aM rfl (aM rfl (aM rfl ?_)))))))))))
    refine aU rfl (bw (by kernel_rfl) rfl (fun w S fp hst => (qg x hok hz i k o s ho hsk).quiet1 (an 2 rfl) hst)) ?_
    refine aM rfl (aU rfl (bc rfl rfl) (aU rfl (bc rfl rfl) ?_))
    refine aj (q := true) rfl (bp (zs := [.int .i64 0, .int .i64 0, .int .i64 0, .int .i64 0, .int .i64 0, .bool false]) (by kernel_rfl) rfl (fun b15_11 => ?_))
    refine aHN ?_
    refine aj rfl (aT 2 tk65 rfl rfl rfl rfl ?_)
    refine aHK ?_
    refine aA rfl (aNs (aSR (aM rfl (aU rfl (bT rfl) (aNn ?_)))))
    refine ah _ rfl (fun h5 => ?_) (fun h5 => ?_)
    ·skip
     have hcn : bS x.kp.l (aW x.objs.l) (di x.vs.l) (cA x.ifs.l) x.lib ⟨⟨(i : Int), (k : Int)⟩, s⟩ = none := by simpa using h5
     have hms := aak (sv := di x.vs.l) (lf := cA x.ifs.l) (lib := x.lib) ht1 ht2 (j7 ho hsk (fun d hd => by simpa using hno d hd) (fun d hd => by simpa using hnk d hd) (by simpa using hcn))
     refine aSR (aM rfl (aM rfl (aA rfl (aA rfl (aA rfl (aA rfl ?_))))))
     refine aNn (eC (ChG ⟨none, 0, []⟩) (fun w S _ => tB w S) (aq (aK (bj (aK (aK ?_))))))
     refine bj (aK (bj (aK (aK (bj (aK ?_))))))
     refine zy [3] [] rfl Tryz.results14 rfl rfl rfl rfl ?_ (.inr rfl)
     refine ⟨rfl, ⟨none, 0, []⟩, rfl, ?_, ?_⟩
     · rw [hms]; rfl
     · rw [hms, if_neg (by simp)]; rfl
    ·skip
     have hcn : bS x.kp.l (aW x.objs.l) (di x.vs.l) (cA x.ifs.l) x.lib ⟨⟨(i : Int), (k : Int)⟩, s⟩ ≠ none := by intro h; rw [h] at h5; cases h5
     refine au (av (ae (aM rfl (aU rfl (ab 2 tk65 rfl rfl rfl) ?_))))
     refine aj (q := true) rfl (cG (zs := [.int .i64 0, .int .i64 0, .int .i64 0, .int .i64 0, .int .i64 0, .bool false]) (l := [(0, .tmp 74)]) el66 (by kernel_rfl) (by decide) (by decide) (by decide) rfl rfl rfl (.more rfl (.v rfl (.v rfl (.v rfl (.v rfl (.v rfl (.v rfl .nil)))))) .nil) rfl rfl (fun v18_2 => ?_))
     refine aHN ?_
     refine aj rfl (cE 1 el66 rfl rfl rfl rfl (dH 3 el66 rfl (by simp)) (by first | assumption | simp) (by simp; omega) _ rfl (fun v18_3 c18_3 => ?_))
     refine aHK ?_
     refine aA rfl (cr (bu (av (ae (aM rfl ?_)))))
     refine aU rfl (bf rfl rfl (by omega)) ?_
     refine aA rfl (aNn ?_)
     refine ⟨[0, 1, 2, 3, 4, 17, 18, 19, 20], [1, 0], [0, 1], rfl, ?_⟩
     refine ⟨(k + 1, .slice v18_3 (((iy x.kp.l (aW x.objs.l) (di x.vs.l) (cA x.ifs.l) x.lib (cu (i : Int) (o.syms.l.take k))).map aO.row).length + 1) c18_3), ⟨⟨by dsimp only; omega, fun d hd => ?_⟩, ?_⟩, by dsimp only; omega⟩
     · dsimp only at hd
       rw [dz hsk, List.mem_append] at hd
       rcases hd with hd | hd
       · exact hnk d hd
       · rw [List.mem_singleton.1 hd]; exact hcn
     · dsimp only; rw [dz hsk, uK, List.map_append]; rfl
   ·skip
    have hkl : o.syms.l.length ≤ k := by simp at h4; omega
    rw [List.take_of_length_le hkl] at hnk
    refine aR (aS (aS (aY (av ?_))))
    rw [List.take_of_length_le hkl]
    generalize hrow : iy x.kp.l (aW x.objs.l) (di x.vs.l) (cA x.ifs.l) x.lib (cu (i : Int) o.syms.l) = lr
    refine dr 1 rfl ?_
    refine fo (.of (an 0 rfl)) (fun al cl hvl => ?_)
    rw [List.length_map] at hvl
    subst hvl
    refine ae (aM rfl (aM rfl ?_))
    refine aj (q := true) rfl (cG (zs := [.slice none 0 0]) (l := [(0, .tmp 78)]) el31 (by kernel_rfl) (by decide) (by decide) (by decide) rfl rfl rfl (.more rfl (.v rfl .nil) .nil) rfl rfl (fun v19_2 => ?_))
    refine aHN ?_
    refine aj rfl (cE 0 el31 rfl rfl rfl rfl (dH 2 el31 rfl (by simp)) (by first | assumption | simp) (by simp; omega) _ rfl (fun v19_3 c19_3 => ?_))
    refine aHK ?_
    refine aA rfl (cr (bu (av ?_)))
    refine eC (bP (ShF aO.row) (outs ++ [⟨al, cl, lr⟩])) (fun w S hps y hy => ?_) ?_
    · rcases List.mem_append.1 hy with hy | hy
      · exact (hps (bP (ShF aO.row) outs) (by simp)) y hy
      · rw [List.mem_singleton.1 hy]; exact hps (Sh (.slice al lr.length cl) (.sl (lr.map aO.row))) (by simp)
    refine ae (aM rfl ?_)
    refine aU rfl (bf rfl rfl (by omega)) ?_
    refine aA rfl (aNn ?_)
    refine ⟨[0, 1, 2, 3, 4, 17, 18], [4, 0], [0], rfl, ?_⟩
    refine ⟨(i + 1, outs ++ [⟨al, cl, lr⟩], .slice v19_3 ((outs.map slR).length + 1) c19_3), ⟨⟨by dsimp only; omega, ?_, fun d hd => ?_⟩, ?_⟩, by dsimp only; omega⟩
    · dsimp only; rw [List.map_append, hout, List.range_succ, List.map_append, ← hrow, ← hoo]; rfl
    · dsimp only at hd
      rw [cq, hoo, List.mem_append] at hd
      rcases hd with hd | hd
      · exact hno d hd
      · exact hnk d hd
    · dsimp only; rw [List.map_append]; rfl
  ·skip
   have hil : i = x.objs.l.length := by simp at h3; omega
   subst hil
   dsimp only
   have hbe : cI x.kp.l (aW x.objs.l) (di x.vs.l) (cA x.ifs.l) x.lib = none := aao ht1 ht2 hno
   refine aR (aS (aS (aY (av (az (dr 0 rfl ?_))))))
   refine fo (.of (an 0 rfl)) (fun ao co hvo => ?_)
   rw [List.length_map] at hvo
   subst hvo
   refine eC (ChG ⟨ao, co, outs⟩) (fun w S hps => ⟨hps (bP (ShF aO.row) outs) (by simp), hps _ List.mem_cons_self⟩) ?_
   refine ae (aM rfl (aA rfl (aA rfl (aA rfl (aA rfl (aNn (aq ?_)))))))
   refine zy [3] [] rfl Tryz.results14 rfl rfl rfl rfl ?_ (.inr rfl)
   refine ⟨rfl, ⟨ao, co, outs⟩, rfl, ?_, ?_⟩
   · rw [hbe]; rfl
   · rw [if_pos hbe]; exact hout
theorem tT (A B : Sl (Sl aO)) : Con Tryz.prog 15 [A.val, B.val] [ChG B, bP (ShF aO.row) A.l, ShF slR A] [] fun r _ _ => A.l.map (·.l) = B.l.map (·.l) → r = .bool true := by
 refine Con.enter Tryz.func15 rfl (by simp [Tryz.ntmps15]) ?_
 show awp _ _ _ _ ⟨[(0, true, _), (1, true, _)], _, _⟩
 refine bd (.of (an 2 rfl)) (fun hlen => ?_)
 refine aSR (aA rfl (aNs (aSR (aM rfl (aU rfl (aZ Tryz.underlying31 rfl) (aM rfl (aU rfl (aZ Tryz.underlying31 rfl) (aU rfl (cN rfl rfl) (aNn ?_)))))))))
 refine ah _ rfl (fun h1 => ?_) (fun h1 => ?_)
 ·skip
  refine aSR (aA rfl (aNn (aq (aK ?_))))
  refine aV [] [] rfl Tryz.results15 rfl ?_ (.inr rfl)
  intro heq
  have := congrArg List.length heq
  rw [List.length_map, List.length_map] at this
  simp at h1; omega
 ·skip
  have hlAB : A.l.length = B.l.length := by simp at h1; omega
  refine au (av (az (aSR (aA rfl (aNn ?_)))))
  refine aw (aP [0, 1, 5] [2, 1, 0] [] (fun (i : Nat) st => i ≤ A.l.length ∧ st = ⟨[(0, true, A.val), (1, true, B.val), (5, true, .int .i64 i)], [ChG B, bP (ShF aO.row) A.l, ShF slR A], []⟩) (fun i => A.l.length - i) rfl (⟨0, Nat.zero_le _, rfl⟩) ?_)
  rintro i st ⟨hi, rfl⟩
  refine az (aSR (aM rfl (aM rfl (aU rfl (aZ Tryz.underlying31 rfl) (aU rfl (bt rfl rfl) (aNn ?_))))))
  refine ah _ rfl (fun h2 => ?_) (fun h2 => ?_)
  ·skip
   have hi' : i < A.l.length := by simp at h2; omega
   obtain ⟨a, ha⟩ : ∃ a, A.l[i]? = some a := ⟨_, List.getElem?_eq_getElem hi'⟩
   obtain ⟨b, hb⟩ : ∃ b, B.l[i]? = some b := ⟨_, List.getElem?_eq_getElem (by omega)⟩
   have hab : A.l.map (·.l) = B.l.map (·.l) → a.l = b.l := fun heq => wN heq ha hb
   refine bd (Ent.all (f := ShF aO.row) (.of (an 1 rfl)) ha) (fun hlena => ?_)
   refine au (av (az (aw (az (az ?_)))))
   refine aX [] (by kernel_rfl) ?_
   show aB _ _ _ _ _ 11 #[false, false, false, false, false, false, false, false, false, false, false] _
   refine bV 0 rfl rfl (ar rfl) ?_
   refine bV 1 rfl rfl (ar rfl) ?_
   refine cD 2 rfl (by kernel_rfl) true rfl rfl (fun _ => ai Tryz.underlying31 tk66 rfl ((.of (an 2 rfl))) rfl (aJ ha) rfl rfl) (fun h => absurd h (by decide)) (fun ⟨b6_2, o6_2⟩ => ?_)
   refine bV 3 rfl rfl (aF (o := 0) tk66 rfl (an 0 rfl) rfl rfl) ?_
   refine bV 4 rfl rfl (aZ Tryz.underlying66 rfl) ?_
   refine bV 5 rfl rfl (ar rfl) ?_
   refine bV 6 rfl rfl (ar rfl) ?_
   refine cD 7 rfl (by kernel_rfl) true rfl rfl (fun _ => ai Tryz.underlying31 tk66 rfl ((Ent.right (.of (an 1 rfl)))) rfl (aJ hb) rfl rfl) (fun h => absurd h (by decide)) (fun ⟨b6_7, o6_7⟩ => ?_)
   refine bV 8 rfl rfl (aF (o := 0) tk66 rfl (an 0 rfl) rfl rfl) ?_
   refine bV 9 rfl rfl (aZ Tryz.underlying66 rfl) ?_
   refine bV 10 rfl rfl (cN rfl rfl) ?_
   refine bD (by kernel_rfl) ?_
   refine av ?_
   refine ah _ rfl (fun h3 => ?_) (fun h3 => ?_)
   ·skip
    refine aSR (aA rfl (aNn (aq (aK (bj (aK (aK (bj (aK ?_)))))))))
    refine aV [] [] rfl Tryz.results15 rfl ?_ (.inr rfl)
    intro heq
    rw [hab heq] at h3; simp at h3
   ·skip
    have hlab : a.l.length = b.l.length := by simp at h3; omega
    refine au (av (aSR (aA rfl (aNn (aw ?_)))))
    refine aP [0, 1, 5, 6] [2, 1, 0] [] (fun (k : Nat) st => k ≤ a.l.length ∧ st = ⟨[(0, true, A.val), (1, true, B.val), (5, true, .int .i64 i), (6, true, .int .i64 k)], [ChG B, bP (ShF aO.row) A.l, ShF slR A], []⟩) (fun k => a.l.length - k) rfl (⟨0, Nat.zero_le _, rfl⟩) ?_
    rintro k st ⟨hk, rfl⟩
    refine az (aSR (aM rfl (aM rfl (aM rfl ?_))))
    refine ck true rfl rfl (fun _ => ai Tryz.underlying31 tk66 rfl ((.of (an 2 rfl))) rfl (aJ ha) rfl rfl) (fun h => absurd h (by decide)) (fun ⟨b9_3, o9_3⟩ => ?_)
    refine aU rfl (aF (o := 0) tk66 rfl (an 0 rfl) rfl rfl) (aU rfl (aZ Tryz.underlying66 rfl) (aU rfl (bt rfl rfl) (aNn ?_)))
    refine ah _ rfl (fun h4 => ?_) (fun h4 => ?_)
    ·skip
     have hk' : k < a.l.length := by simp at h4; omega
     obtain ⟨y, hy⟩ : ∃ y, a.l[k]? = some y := ⟨_, List.getElem?_eq_getElem hk'⟩
     obtain ⟨z, hz⟩ : ∃ z, b.l[k]? = some z := ⟨_, List.getElem?_eq_getElem (by omega)⟩
     refine au (av (az (aw (az ?_))))
     refine aX [] (by kernel_rfl) ?_
     show aB _ _ _ _ _ 15 #[false, false, false, false, false, false, false, false, false, false, false, false, false, false, false] _
     refine bV 0 rfl rfl (ar rfl) ?_
     refine bV 1 rfl rfl (ar rfl) ?_
     refine cD 2 rfl (by kernel_rfl) true rfl rfl (fun _ => ai Tryz.underlying31 tk66 rfl ((.of (an 3 rfl))) rfl (aJ ha) rfl rfl) (fun h => absurd h (by decide)) (fun ⟨b11_2, o11_2⟩ => ?_)
     refine bV 3 rfl rfl (aF (o := 0) tk66 rfl (an 0 rfl) rfl rfl) ?_
     refine bV 4 rfl rfl (ar rfl) ?_
     refine cD 5 rfl (by kernel_rfl) true rfl rfl (fun _ => ai Tryz.underlying66 tk65 rfl ((Ent.all (f := ShF aO.row) (.of (an 3 rfl)) ha)) rfl (aJ hy) rfl rfl) (fun h => absurd h (by decide)) (fun ⟨b11_5, o11_5⟩ => ?_)
     refine bV 6 rfl rfl (aF (o := 0) tk65 rfl (an 0 rfl) rfl rfl) ?_
     refine bV 7 rfl rfl (ar rfl) ?_
     refine bV 8 rfl rfl (ar rfl) ?_
     refine cD 9 rfl (by kernel_rfl) true rfl rfl (fun _ => ai Tryz.underlying31 tk66 rfl ((Ent.right (.of (an 3 rfl)))) rfl (aJ hb) rfl rfl) (fun h => absurd h (by decide)) (fun ⟨b11_9, o11_9⟩ => ?_)
     refine bV 10 rfl rfl (aF (o := 0) tk66 rfl (an 0 rfl) rfl rfl) ?_
     refine bV 11 rfl rfl (ar rfl) ?_
     refine cD 12 rfl (by kernel_rfl) true rfl rfl (fun _ => ai Tryz.underlying66 tk65 rfl ((Ent.all (f := ShF aO.row) (Ent.left (.of (an 4 rfl))) hb)) rfl (aJ hz) rfl rfl) (fun h => absurd h (by decide)) (fun ⟨b11_12, o11_12⟩ => ?_)
     refine bV 13 rfl rfl (aF (o := 0) tk65 rfl (an 0 rfl) rfl rfl) ?_
     refine bV 14 rfl rfl (y5 y z rfl rfl) ?_
     refine bD (by kernel_rfl) ?_
     refine av ?_
     refine ah _ rfl (fun h5 => ?_) (fun h5 => ?_)
     ·skip
      refine aSR (aA rfl (aNn (aq (bj (aK (aK (bj (bj (aK (aK (bj (aK ?_))))))))))))
      refine aV [] [] rfl Tryz.results15 rfl ?_ (.inr rfl)
      intro heq
      rw [hab heq, hz] at hy
      obtain rfl := Option.some.inj hy
      simp at h5
     ·skip
      refine au (bu (av (ae (aM rfl ?_))))
      refine aU rfl (bf rfl rfl (by omega)) ?_
      refine aA rfl (aNn ?_)
      refine ⟨[0, 1, 5, 6], [2, 1, 0], [], rfl, ?_⟩
      exact ⟨k + 1, ⟨by omega, rfl⟩, by omega⟩
    ·skip
     refine aR (aS (aS (aY (bu (av (ae (aM rfl ?_)))))))
     refine aU rfl (bf rfl rfl (by omega)) ?_
     refine aA rfl (aNn ?_)
     refine ⟨[0, 1, 5], [2, 1, 0], [], rfl, ?_⟩
     exact ⟨i + 1, ⟨by omega, rfl⟩, by omega⟩
  ·skip
   refine aR (aS (aS (aY (av (aSR (aA rfl (aNn (aq ?_))))))))
   refine aV [] [] rfl Tryz.results15 rfl ?_ (.inr rfl)
   intro _; rfl
end Go.Proofs.YtgmiihmahaahiaaGreatDoor

