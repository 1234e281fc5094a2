/- Parts of the proof, in build order. No condition. -/
import Derived.Test.YtgmiihmahaahiaaGreatDoorQc09
import Derived.Test.YtgmiihmahaahiaaGreatDoorQc06
import Derived.Test.YtgmiihmahaahiaaGreatDoorQc05
import Derived.Test.YtgmiihmahaahiaaGreatDoorQc03
import Derived.Test.YtgmiihmahaahiaaGreatDoorQc10
import Derived.Shelf.SlSortCmp.WholeK
import Derived.Shelf.SlSortCmp.NoneTotal
import Derived.Test.YtgmiihmahaahiaaGreatDoorProg
import Derived.Ground.SlsfProg
set_option linter.unusedSimpArgs false
set_option linter.unusedVariables false
set_option maxHeartbeats 1000000
set_option maxRecDepth 20000
namespace Go.Proofs.YtgmiihmahaahiaaGreatDoor
open Go.RowKit Go.Lp Go.Sy
open Go.Proofs.Tryz
attribute [local irreducible] aL aB awp aC fwp
def xl (P : Program) (kt : TypeId) : Bool := !P.stoodInHeld kt && match P.underlying kt with
 | some (.struct fs) => (match fs.toList with
   | [f, g] => f.name != "_" && g.name != "_" && f.offset == 0 && g.offset == 1 && (match P.underlying f.type with | some .string => true | _ => false) && (match P.underlying g.type with | some .string => true | _ => false)
   | _ => false)
 | _ => false
theorem uH {P : Program} {kt : TypeId} (h : xl P kt = true) : ek P kt cj := by
 unfold xl at h
 rw [Bool.and_eq_true] at h
 obtain ⟨h0, h⟩ := h
 cases hu : P.underlying kt with
 | none => rw [hu] at h; cases h
 | some t =>
   rw [hu] at h
   cases t with
   | struct fs =>
     dsimp only at h
     cases hl : fs.toList with
     | nil => rw [hl] at h; cases h
     | cons f l =>
       rw [hl] at h
       cases l with
       | nil => cases h
       | cons g l =>
         cases l with
         | cons _ _ => cases h
         | nil =>
           simp only [Bool.and_eq_true, bne_iff_ne, beq_iff_eq] at h
           obtain ⟨⟨⟨⟨⟨n1, n2⟩, o1⟩, o2⟩, t1⟩, t2⟩ := h
           have hf : P.fieldsOf kt = fs := by unfold Program.fieldsOf; rw [hu]
           refine xa (f := f) (g := g) (by rw [hf]; exact hu) (by simpa using h0) (by rw [hf]; exact hl) n1 n2 o1 o2 ?_ ?_
           · split at t1
             · assumption
             · cases t1
           · split at t2
             · assumption
             · cases t2
   | _ => cases h
theorem kyK : ek Tryz.prog 157 cj := uH (by kernel_rfl)
theorem kyT : ek Tryz.prog 9 dK := vN Tryz.underlying9
def slV {α : Type} (s : Sl α) : Value := .slice s.ad s.l.length s.cap
def gO (k : cW) : List D := [.v (.string k.1), .v (.string k.2)]
def chP (kp : List (Sl Bool)) (L : List Dfn) : cW → Option aD := fun k => (cd kp L k).map (·.p)
structure CS where
 mA : cW → Option (Sl aD)
 mN : ByteArray → Option (Sl cW)
 fa : aD × Bool
structure hJ (kp : List (Sl Bool)) (L : List Dfn) (st : CS) : Prop where
 all : ∀ k, (cn st.mA k).l = (db kp L k).map (·.p)
 names : ∀ n, (cn st.mN n).l = dU kp L n
 tw : ea kp L = if st.fa.2 = true then some st.fa.1 else none
abbrev qm (x : br) (a b : Nat) (L : List Dfn) (st : CS) : List Res :=
 [dg x.ball cj slV st.mA, dS 34 2 aD.row st.mA, dg x.bch cj aD.val (chP x.kp.l L), dg x.bnm dK slV st.mN, dS 157 2 gO st.mN, Box a 34 st.fa.1.vs, Box b 4 [.bool st.fa.2]]
theorem jL {α β : Type} [DecidableEq α] (m : α → Option (Sl β)) (k a : α) (s : Sl β) : cn (cC m k s) a = if a = k then s else cn m a := by
 unfold cn cC; by_cases h : a = k <;> simp [h]
section
variable {kp : List (Sl Bool)} {L : List Dfn} {d : Dfn} {st : CS}
theorem xv (hd : dN kp d = true) : chP kp (L ++ [d]) = match cd kp L d.key with
   | none => cC (chP kp L) d.key d.p
   | some e => if dB d < dB e then cC (chP kp L) d.key d.p else chP kp L := by
 funext k
 unfold chP
 rw [jW]
 by_cases hk : d.key = k
 · subst hk
   rw [if_pos ⟨hd, rfl⟩]
   cases hc : cd kp L d.key with
   | none => simp [better, cC]
   | some e =>
     simp only [better]
     split
     · simp [cC]
     · simp [hc]
 · rw [if_neg (fun h => hk h.2)]
   cases hc : cd kp L d.key with
   | none => simp [cC, Ne.symm hk]
   | some e =>
     dsimp only
     split
     · simp [cC, Ne.symm hk]
     · rfl
theorem hJ.skip (h : hJ kp L st) (hd : dN kp d = false) : hJ kp (L ++ [d]) st where
 all k := by rw [h.all, gh, if_neg (by simp [hd]), List.append_nil]
 names n := by rw [h.names, fQ, if_neg (by simp [hd])]
 tw := by rw [gC, if_neg (by simp [hd]), Option.or_none]; exact h.tw
theorem wo (hd : dN kp d = false) : chP kp (L ++ [d]) = chP kp L := by
 funext k; unfold chP; rw [jW, if_neg (by simp [hd])]
theorem hJ.step (h : hJ kp L st) (hd : dN kp d = true) {s : Sl aD} (hs : s.l = (cn st.mA d.key).l ++ [d.p]) {mN : ByteArray → Option (Sl cW)} {fa : aD × Bool}
   (hN : ∀ n, (cn mN n).l = if n = d.s.name ∧ db kp L d.key = [] then (cn st.mN n).l ++ [d.key] else (cn st.mN n).l)
   (hf : fa = if d.s.bind = 1 ∧ ∃ e ∈ db kp L d.key, e.s.bind = 1 then dO st.fa d.p else st.fa) (hlt : st.fa.2 = true → ¬ ltC d.p st.fa.1) : hJ kp (L ++ [d]) ⟨cC st.mA d.key s, mN, fa⟩ where
 all k := by
   rw [jL, gh]
   by_cases hk : k = d.key
   · subst hk; rw [if_pos rfl, if_pos ⟨hd, rfl⟩, hs, h.all]; simp
   · rw [if_neg hk, if_neg (fun hh => hk hh.2.symm), List.append_nil, h.all]
 names n := by
   show (cn mN n).l = _
   rw [hN, fQ, h.names]
   by_cases hn : n = d.s.name ∧ db kp L d.key = []
   · rw [if_pos hn, if_pos ⟨hd, hn.1.symm, hn.2⟩]
   · rw [if_neg hn, if_neg (fun hh => hn ⟨hh.2.1.symm, hh.2.2⟩)]
 tw := by
   show _ = if fa.2 = true then some fa.1 else none
   rw [gC, h.tw, hf]
   by_cases hc : d.s.bind = 1 ∧ ∃ e ∈ db kp L d.key, e.s.bind = 1
   · have e1 : (if dN kp d = true ∧ d.s.bind = 1 ∧ (∃ e ∈ db kp L d.key, e.s.bind = 1) then some d.p else none) = some d.p := if_pos ⟨hd, hc⟩
     rw [e1, if_pos hc]
     unfold dO
     cases hb : st.fa.2 with
     | false => simp
     | true => simp [hlt hb, hb]
   · have e1 : (if dN kp d = true ∧ d.s.bind = 1 ∧ (∃ e ∈ db kp L d.key, e.s.bind = 1) then some d.p else none) = none := if_neg fun hh => hc hh.2
     rw [e1, if_neg hc, Option.or_none]
end
theorem rB {kp : List (Sl Bool)} {L : List Dfn} {p : aD} (h : ea kp L = some p) : ∃ e ∈ L, e.p = p := by
 induction L using fq with
 | nil => cases h
 | snoc L d ih =>
   rw [gC, Option.or_eq_some_iff] at h
   rcases h with h | ⟨_, h⟩
   · obtain ⟨e, he, hp⟩ := ih h; exact ⟨e, List.mem_append_left _ he, hp⟩
   · split at h
     · exact ⟨d, by simp, Option.some.inj h⟩
     · cases h
theorem hJ.lt {kp : List (Sl Bool)} {L : List Dfn} {d : Dfn} {st : CS} (h : hJ kp L st) (hA : Asc (L ++ [d])) (hb : st.fa.2 = true) : ¬ ltC d.p st.fa.1 := by
 have := h.tw
 rw [if_pos hb] at this
 obtain ⟨e, he, hp⟩ := rB this
 rw [← hp]
 exact fun hlt => dR _ (er ((List.pairwise_append.1 hA).2.2 e he d (List.mem_singleton.2 rfl)) hlt)
def jX (kp : List (Sl Bool)) (L : List Dfn) (d : Dfn) : cW → Option aD := if db kp L d.key = [] then cC (chP kp L) d.key d.p else chP kp L
theorem vJ {kp : List (Sl Bool)} {L : List Dfn} {d : Dfn} (hb : dN kp d = true) : ∃ old, jX kp L d d.key = some old.p ∧ (old = d ∨ old ∈ L) ∧ (db kp L d.key = [] → old = d) ∧ (db kp L d.key ≠ [] → cd kp L d.key = some old) := by
 unfold jX
 by_cases h : db kp L d.key = []
 · rw [if_pos h]; exact ⟨d, tI _ _ _, .inl rfl, fun _ => rfl, fun h2 => (h2 h).elim⟩
 · rw [if_neg h]
   cases hc : cd kp L d.key with
   | none => exact (h (eG.1 hc)).elim
   | some e => exact ⟨e, by unfold chP; rw [hc]; rfl, .inr (dw hc).1, fun h2 => (h h2).elim, fun _ => rfl⟩
theorem jO {kp : List (Sl Bool)} {L : List Dfn} {d old : Dfn} (hb : dN kp d = true) (h1 : db kp L d.key = [] → old = d) (h2 : db kp L d.key ≠ [] → cd kp L d.key = some old) :
   chP kp (L ++ [d]) = if dB d < dB old then cC (jX kp L d) d.key d.p else jX kp L d := by
 rw [xv hb]
 unfold jX
 by_cases h : db kp L d.key = []
 · rw [if_pos h, eG.2 h, h1 h, if_neg (Int.lt_irrefl _)]
 · rw [if_neg h, h2 h]
theorem uF (x : br) (hok : ew x.objs.l x.kp.l) (lb b2 a b : Nat) (L : List Dfn) (d : Dfn) (hd : InD x.objs.l d) (hlen : L.length < 70) (hpre : ∃ M, aW x.objs.l = (L ++ [d]) ++ M) (st : CS) (hI : hJ x.kp.l L st) :
   Con Tryz.prog 84 [d.p.val, d.s.val, .pointer (some ⟨b2, 0, none⟩), .pointer (some ⟨a, 0, none⟩), .pointer (some ⟨b, 0, none⟩)] [At b2 0 [.v (.pointer (some ⟨lb, 0, none⟩))], At lb 0 x.row, x.ok] (qm x a b L st)
     fun _ ps hp => ps = [] ∧ ∃ y, hJ x.kp.l (L ++ [d]) y ∧ hp = qm x a b (L ++ [d]) y := by
 refine Con.conv (R := fun _ ps hp => ps = [] ∧ ((∃ y, hJ x.kp.l (L ++ [d]) y ∧ hp = qm x a b (L ++ [d]) y) ∨ ∃ (s : Sl aD) (mN : ByteArray → Option (Sl cW)) (fa : aD × Bool) (v : Value) (rows : List (List D)), hJ x.kp.l (L ++ [d]) ⟨cC st.mA d.key s, mN, fa⟩ ∧ v = s.val ∧ rows = s.l.map aD.row ∧
   hp = [dg x.ball cj slV (cC st.mA d.key s), dS 34 2 aD.row (lM st.mA d.key), dg x.bch cj aD.val (chP x.kp.l (L ++ [d])), dg x.bnm dK slV mN, dS 157 2 gO mN, Box a 34 fa.1.vs, Box b 4 [.bool fa.2], bA v 34 2 rows])) ?_ fun _ ps' hp' ⟨h1, h⟩ => ?_
 rotate_left
 · subst h1
   rcases h with h | ⟨s, mN, fa, v, rows, hc, hv, hr, rfl⟩
   · exact ⟨_, _, .refl, rfl, h⟩
   · refine ⟨_, _, (StE.put (row := aD.row) 1 7 d.key s rfl rfl hv hr (gP _ _) rfl).trans (StE.keep [] [0, 1, 2, 3, 4, 5, 6] rfl), rfl, ⟨cC st.mA d.key s, mN, fa⟩, hc, ?_⟩
     rw [iO]; rfl
 have hA : Asc (L ++ [d]) := by
   obtain ⟨M, hM⟩ := hpre
   have := ed x.objs.l x.objs.l.length
   rw [show bQ x.objs.l x.objs.l.length = aW x.objs.l from rfl, hM] at this
   exact (List.pairwise_append.1 this).1
 have hmem : ∀ e, e = d ∨ e ∈ L → InD x.objs.l e := fun e he => by
   rw [← i1]
   obtain ⟨M, hM⟩ := hpre
   rw [hM]
   rcases he with rfl | he <;> simp [*]
 have hlA : ((st.mA d.key).getD ⟨none, 0, []⟩).l.length = (db x.kp.l L d.key).length := by
   have := congrArg List.length (hI.all d.key)
   rw [List.length_map] at this; exact this
 have hlN : ((st.mN d.s.name).getD ⟨none, 0, []⟩).l.length ≤ 70 := by
   have := congrArg List.length (hI.names d.s.name)
   have h2 := kf (kp := x.kp.l) L d.s.name
   have h3 : ((st.mN d.s.name).getD ⟨none, 0, []⟩).l.length = (dU x.kp.l L d.s.name).length := this
   omega
 have hlA2 : ((st.mA d.key).getD ⟨none, 0, []⟩).l.length ≤ 70 := by
   have h2 := oT (kp := x.kp.l) L d.key
   omega
 refine Con.enter Tryz.func84 rfl (by simp [Tryz.ntmps84]) ?_
 show awp _ _ _ _ ⟨[(0, true, _), (1, true, _), (2, true, _), (3, true, _), (4, true, _)], _, _⟩
 refine aSR ?_
 refine aj (q := true) rfl (bI rfl rfl rfl (fun b0_0 => ?_))
 refine aHN ?_
 refine aj (q := true) rfl (bI rfl rfl rfl (fun b0_1 => ?_))
 refine aHN ?_
 refine aNs (aSR (aU rfl (aN (o := 0) tk101 rfl (.of (an 0 rfl)) rfl) (aU rfl (ab 7 tk34 rfl rfl rfl) (aU rfl (ab 8 tk63 rfl rfl rfl) ?_))))
 refine aU rfl (bw (by kernel_rfl) rfl (fun w S fp hst => (rn x hok lb d hd).quiet2 (an 1 rfl) (an 2 rfl) hst)) ?_
 refine aU rfl (bT rfl) (aNn ?_)
 refine ah _ rfl (fun h1 => ?_) (fun h1 => ?_)
 ·skip
  have hdef : dN x.kp.l d = false := by simpa using h1
  refine aq (aK ?_)
  rw [← wo (L := L) (d := d) hdef]
  refine iL [] [0, 1, 2, 3, 4, 5, 6] rfl Tryz.results84 ?_ (.inr rfl)
  exact ⟨rfl, .inl ⟨st, hI.skip hdef, rfl⟩⟩
 ·skip
  have hdef : dN x.kp.l d = true := by simpa using h1
  obtain ⟨old, hold, holdm, holdf, holdc⟩ := vJ (L := L) hdef
  refine au (av (aSR ?_))
  refine aU rfl (qFA (off := 0) rfl) ?_
  refine aU rfl (ab 8 tk9 rfl rfl rfl) ?_
  refine aU rfl (qFA (off := 1) rfl) ?_
  refine aU rfl (ab 8 tk9 rfl rfl rfl) ?_
  refine aU rfl (cU (l := [(0, .tmp 15), (1, .tmp 17)]) (zs := [.string .empty, .string .empty]) (pl := [(0, 1), (1, 1)]) (by kernel_rfl) (by kernel_rfl) (by kernel_rfl) rfl rfl rfl) ?_
  refine aj (q := true) rfl (bp (zs := [.string .empty, .string .empty]) (by kernel_rfl) rfl (fun b2_5 => ?_))
  refine aHN ?_
  refine aj rfl (aT 9 tk157 rfl rfl rfl rfl ?_)
  refine aHK ?_
  refine aNs ?_
  refine qW (X := { mN : ByteArray → Option (Sl cW) // ∀ n, (cn mN n).l = if n = d.s.name ∧ db x.kp.l L d.key = [] then (cn st.mN n).l ++ [d.key] else (cn st.mN n).l }) (fun q => ⟨[(2, true, .pointer (some ⟨b2, 0, none⟩)), (3, true, .pointer (some ⟨a, 0, none⟩)), (4, true, .pointer (some ⟨b, 0, none⟩)), (5, true, .pointer (some ⟨b0_0, 0, none⟩)), (6, true, .pointer (some ⟨b0_1, 0, none⟩)), (7, true, .pointer (some ⟨b2_5, 0, none⟩))], [At b2 0 [.v (.pointer (some ⟨lb, 0, none⟩))], At lb 0 x.row, x.ok], [dg x.ball cj slV st.mA, dS 34 2 aD.row st.mA, dg x.bch cj aD.val (jX x.kp.l L d), dg x.bnm dK slV q.1, dS 157 2 gO q.1, Box a 34 st.fa.1.vs, Box b 4 [.bool st.fa.2], Box b0_0 34 d.p.vs, Box b0_1 63 d.s.vs, Box b2_5 157 [.string d.s.name, .string d.s.version]]⟩) ?_ ?_
  ·skip
   refine az ?_
   refine aX [] (by kernel_rfl) ?_
   show aB _ _ _ _ _ 8 #[false, false, false, false, false, false, false, false] _
   refine bV 0 rfl rfl (aN (o := 0) tk101 rfl (.of (an 0 rfl)) rfl) ?_
   refine bV 1 rfl rfl (bq rfl) ?_
   refine bV 2 rfl rfl (qFA (off := 5) rfl) ?_
   refine bV 3 rfl rfl (aN (o := 5) tk102 rfl (.of (an 1 rfl)) rfl) ?_
   refine bV 4 rfl rfl (ab 9 tk157 rfl rfl rfl) ?_
   refine bV 5 rfl rfl (gk (k := d.key) (v0 := (⟨none, 0, []⟩ : Sl aD)) 0 Tryz.underlying102 (kyK) (by kernel_rfl) rfl rfl rfl) ?_
   refine bV 6 rfl rfl (aZ Tryz.underlying158 rfl) ?_
   refine bV 7 rfl rfl (bB rfl rfl) ?_
   refine bD (by kernel_rfl) ?_
   refine av ?_
   refine ah _ rfl (fun h2 => ?_) (fun h2 => ?_)
   ·skip
    have hfr : db x.kp.l L d.key = [] := by
      have h2' : (((st.mA d.key).getD ⟨none, 0, []⟩).l.length : Int) = 0 := of_decide_eq_true h2
      rw [hlA] at h2'
      exact List.eq_nil_of_length_eq_zero (by omega)
    have hnew : ∀ s : Sl cW, s.l = (cn st.mN d.s.name).l ++ [d.key] → ∀ n, (cn (cC st.mN d.s.name s) n).l = if n = d.s.name ∧ db x.kp.l L d.key = [] then (cn st.mN n).l ++ [d.key] else (cn st.mN n).l := fun s hs n => by
      rw [jL]
      by_cases hn : n = d.s.name
      · subst hn; rw [if_pos rfl, if_pos ⟨rfl, hfr⟩, hs]
      · rw [if_neg hn, if_neg (fun hh => hn hh.1)]
    have hch : cC (chP x.kp.l L) d.key d.p = jX x.kp.l L d := by unfold jX; rw [if_pos hfr]
    refine az (fP 4 d.s.name rfl ?_)
    refine ec [15, 16] [] [b0_1] (by kernel_rfl) ?_
    show aC _ _ _ _ _ _ _ 17 #[false, false, false, false, false, false, false, false, false, false, false, false, false, false, false, false, false] _
    refine cX 0 rfl (by kernel_rfl) true rfl rfl (fun _ => aN (o := 0) tk101 rfl (.of (an 0 rfl)) rfl) ?_
    refine cX 1 rfl (by kernel_rfl) true rfl rfl (fun _ => bq rfl) ?_
    refine cX 2 rfl (by kernel_rfl) true rfl rfl (fun _ => qFA (off := 7) rfl) ?_
    refine cX 3 rfl (by kernel_rfl) true rfl rfl (fun _ => aN (o := 7) tk104 rfl (.of (an 1 rfl)) rfl) ?_
    refine cX 4 rfl (by kernel_rfl) true rfl rfl (fun _ => qFA (off := 0) rfl) ?_
    refine eU 5 8 rfl (by kernel_rfl) true rfl rfl (by simp) tk9 (fun _ => rfl) rfl rfl ?_
    refine cX 6 rfl (by kernel_rfl) true rfl rfl (fun _ => aN (o := 0) tk101 rfl (.of (an 0 rfl)) rfl) ?_
    refine cX 7 rfl (by kernel_rfl) true rfl rfl (fun _ => bq rfl) ?_
    refine cX 8 rfl (by kernel_rfl) true rfl rfl (fun _ => qFA (off := 7) rfl) ?_
    refine cX 9 rfl (by kernel_rfl) true rfl rfl (fun _ => aN (o := 7) tk104 rfl (.of (an 1 rfl)) rfl) ?_
    refine cX 10 rfl (by kernel_rfl) true rfl rfl (fun _ => qFA (off := 0) rfl) ?_
    refine eU 11 8 rfl (by kernel_rfl) true rfl rfl (by simp) tk9 (fun _ => rfl) rfl rfl ?_
    refine l9 12 rfl (by kernel_rfl) true rfl rfl (fun _ => gk (k := d.s.name) (v0 := (⟨none, 0, []⟩ : Sl cW)) 3 Tryz.underlying104 (kyT) (by kernel_rfl) rfl rfl rfl) ?_
    refine l9 13 rfl (by kernel_rfl) true rfl rfl (fun _ => ab 9 tk157 rfl rfl rfl) ?_
    refine cz 14 [] (by kernel_rfl) (bO ?_ cm)
    refine cM 14 rfl rfl (Eff.x ?_)
    refine id (cG (zs := [.string .empty, .string .empty]) (l := [(0, .tmp 40)]) el159 (by kernel_rfl) (by decide) (by decide) (by decide) rfl rfl rfl (.more rfl (.v rfl (.v rfl .nil)) .nil) rfl rfl (fun v4_14 => ?_))
    refine dy (by (try simp only [nO, nK, nL]); rfl) (by (try simp only [nM, nN]); rfl) (by (try simp only [bX, nQ, nR, dt, place, Nat.reduceBEq, if_true, if_false, reduceIte, Nat.reduceAdd, nW]); rfl) ?_
    refine cz 15 [] (by kernel_rfl) (bO ?_ cm)
    refine cM 15 rfl rfl (Eff.framed (q := false) [10, 11] rfl rfl (fJ 8 rfl rfl ji) ?_)
    refine id (cE 0 el159 rfl rfl rfl rfl (dH 1 el159 rfl (by simp)) (by first | assumption | simp) (by show ((cn st.mN d.s.name).l.map gO).length + 1 ≤ _; rw [List.length_map]; exact Nat.le_trans (Nat.add_le_add_right hlN 1) (by decide)) (((cn st.mN d.s.name).l ++ [d.key]).length) (by show ((cn st.mN d.s.name).l.map gO).length + 1 = _; rw [List.length_map, List.length_append]; rfl) (fun v4_15 c4_15 => ?_))
    refine gn ?_
    refine dy (by (try simp only [nO, nK, nL]); rfl) (by (try simp only [nM, nN]); rfl) (by (try simp only [bX, nQ, nR, dt, place, Nat.reduceBEq, if_true, if_false, reduceIte, Nat.reduceAdd, nW]); rfl) ?_
    refine cz 16 [] (by kernel_rfl) (bO ?_ cm)
    refine cM 16 rfl rfl (Eff.framed (q := false) [3] rfl rfl (fJ 8 rfl rfl ji) ?_)
    refine id (cY (k := d.s.name) (v := (⟨v4_15, c4_15, (cn st.mN d.s.name).l ++ [d.key]⟩ : Sl cW)) 0 Tryz.underlying104 (kyT) rfl rfl rfl rfl ?_)
    refine gn ?_
    refine dy (by (try simp only [nO, nK, nL]); rfl) (by (try simp only [nM, nN]); rfl) (by (try simp only [bX, nQ, nR, dt, place, Nat.reduceBEq, if_true, if_false, reduceIte, Nat.reduceAdd, nW]); rfl) ?_
    refine gu (by kernel_rfl) ?_
    refine av ?_
    refine pd (row := gO) 4 10 d.s.name (⟨v4_15, c4_15, (cn st.mN d.s.name).l ++ [d.key]⟩ : Sl cW) rfl rfl rfl (by first | (rw [List.map_append]; done) | (rw [List.map_append]; rfl)) (gP _ _) rfl ?_
    rw [iO]
    refine aX [6] (by kernel_rfl) ?_
    show aB _ _ _ _ _ 7 #[false, false, false, false, false, false, false] _
    refine bV 0 rfl rfl (aN (o := 0) tk101 rfl (.of (an 0 rfl)) rfl) ?_
    refine bV 1 rfl rfl (bq rfl) ?_
    refine bV 2 rfl rfl (qFA (off := 6) rfl) ?_
    refine bV 3 rfl rfl (aN (o := 6) tk103 rfl (.of (an 1 rfl)) rfl) ?_
    refine bV 4 rfl rfl (ab 9 tk157 rfl rfl rfl) ?_
    refine bV 5 rfl rfl (ab 7 tk34 rfl rfl rfl) ?_
    refine bM 6 rfl (by kernel_rfl) rfl rfl (cY (k := d.key) (v := d.p) 2 Tryz.underlying103 (kyK) rfl rfl rfl rfl ?_)
    refine bST rfl ?_
    refine bD (by kernel_rfl) ?_
    rw [hch]
    refine av ?_
    first
    | exact ⟨[2, 3, 4, 5, 6, 7], [2, 1, 0], [0, 1, 2, 3, 4, 5, 6, 7, 8, 9], ⟨cC st.mN d.s.name (⟨v4_15, c4_15, (cn st.mN d.s.name).l ++ [d.key]⟩ : Sl cW), hnew _ rfl⟩, rfl, rfl⟩
    | exact ⟨[2, 3, 4, 5, 6, 7], [2, 1, 0], [0, 1, 2, 3, 4, 5, 6, 7, 8, 9], ⟨st.mN, by assumption⟩, rfl, rfl⟩
   ·skip
    have hfr : db x.kp.l L d.key ≠ [] := by
      intro h0
      have h2' : ¬ (((st.mA d.key).getD ⟨none, 0, []⟩).l.length : Int) = 0 := of_decide_eq_false h2
      rw [hlA, h0] at h2'
      exact h2' rfl
    have hsame : ∀ n, (cn st.mN n).l = if n = d.s.name ∧ db x.kp.l L d.key = [] then (cn st.mN n).l ++ [d.key] else (cn st.mN n).l := fun n => by rw [if_neg (fun hh => hfr hh.2)]
    rw [show chP x.kp.l L = jX x.kp.l L d by unfold jX; rw [if_neg hfr]]
    refine au (av ?_)
    first
    | exact ⟨[2, 3, 4, 5, 6, 7], [2, 1, 0], [0, 1, 2, 3, 4, 5, 6, 7, 8, 9], ⟨cC st.mN d.s.name (⟨v4_15, c4_15, (cn st.mN d.s.name).l ++ [d.key]⟩ : Sl cW), hnew _ rfl⟩, rfl, rfl⟩
    | exact ⟨[2, 3, 4, 5, 6, 7], [2, 1, 0], [0, 1, 2, 3, 4, 5, 6, 7, 8, 9], ⟨st.mN, by assumption⟩, rfl, rfl⟩
  ·skip
   rintro ⟨mN, hmN⟩
   dsimp only
   refine az ?_
   refine aX [9] (by kernel_rfl) ?_
   show aB _ _ _ _ _ 10 #[false, false, false, false, false, false, false, false, false, false] _
   refine bV 0 rfl rfl (aN (o := 0) tk101 rfl (.of (an 0 rfl)) rfl) ?_
   refine bV 1 rfl rfl (aN (o := 0) tk101 rfl (.of (an 0 rfl)) rfl) ?_
   refine bV 2 rfl rfl (bq rfl) ?_
   refine bV 3 rfl rfl (qFA (off := 6) rfl) ?_
   refine bV 4 rfl rfl (aN (o := 6) tk103 rfl (.of (an 1 rfl)) rfl) ?_
   refine bV 5 rfl rfl (ab 9 tk157 rfl rfl rfl) ?_
   refine bV 6 rfl rfl ((gk (k := d.key) (v0 := (⟨0, 0⟩ : aD)) 2 Tryz.underlying103 (kyK) (by kernel_rfl) rfl rfl rfl).castV (v' := aD.val old.p) (congrArg aD.val (by rw [hold]; rfl))) ?_
   refine bV 7 rfl rfl (bw (by kernel_rfl) rfl (fun w S fp hst => (lv x lb old (hmem old holdm)).quiet2 (an 1 rfl) (an 2 rfl) hst)) ?_
   refine bM (q := true) 8 rfl (by kernel_rfl) rfl rfl (bp (zs := [.string .empty, .string .empty, .bool false, .int .i64 0, .int .i64 0, .int .i64 0, .int .i64 0, .int .i64 0, .int .i64 0, .int .i64 0]) (by kernel_rfl) rfl (fun b6_8 => ?_))
   refine bST rfl ?_
   refine bM 9 rfl (by kernel_rfl) rfl rfl (aT 10 tk63 rfl rfl rfl rfl ?_)
   refine bST rfl ?_
   refine bD (by kernel_rfl) ?_
   refine av (az (az ?_))
   refine aX [] (by kernel_rfl) ?_
   show aB _ _ _ _ _ 18 #[false, false, false, false, false, false, false, false, false, false, false, false, false, false, false, false, false, false] _
   refine bV 0 rfl rfl (aN (o := 0) tk101 rfl (.of (an 0 rfl)) rfl) ?_
   refine bV 1 rfl rfl (bq rfl) ?_
   refine bV 2 rfl rfl (qFA (off := 5) rfl) ?_
   refine bV 3 rfl rfl (aN (o := 5) tk102 rfl (.of (an 1 rfl)) rfl) ?_
   refine bV 4 rfl rfl (ab 9 tk157 rfl rfl rfl) ?_
   refine bV 5 rfl rfl (gk (k := d.key) (v0 := (⟨none, 0, []⟩ : Sl aD)) 0 Tryz.underlying102 (kyK) (by kernel_rfl) rfl rfl rfl) ?_
   refine bV 6 rfl rfl (aZ Tryz.underlying158 rfl) ?_
   refine bV 7 rfl rfl (du rfl rfl) ?_
   refine bV 8 rfl rfl (ar rfl) ?_
   refine bW 9 rfl rfl rfl (fun hc => qFA (off := 3) rfl) ?_
   refine bW 10 rfl rfl rfl (fun hc => ab 8 tk3 (aa rfl hc) rfl rfl) ?_
   refine bW 11 rfl rfl rfl (fun hc => bB (aa rfl hc) rfl) ?_
   refine bV 12 rfl rfl (bn rfl rfl (fun h => gt rfl h)) ?_
   refine bV 13 rfl rfl (ar rfl) ?_
   refine bW 14 rfl rfl rfl (fun hc => qFA (off := 3) rfl) ?_
   refine bW 15 rfl rfl rfl (fun hc => ab 10 tk3 (aa rfl hc) rfl rfl) ?_
   refine bW 16 rfl rfl rfl (fun hc => bB (aa rfl hc) rfl) ?_
   refine bV 17 rfl rfl (bn rfl rfl (fun h => gt rfl h)) ?_
   refine bD (by kernel_rfl) ?_
   refine av ?_
   refine ah _ rfl (fun h3 => ?_) (fun h3 => ?_)
   ·skip
    have hfa : dO st.fa d.p = if d.s.bind = 1 ∧ ∃ e ∈ db x.kp.l L d.key, e.s.bind = 1 then dO st.fa d.p else st.fa := by
      simp only [Bool.and_eq_true, decide_eq_true_eq] at h3
      rw [hlA] at h3
      have hne : db x.kp.l L d.key ≠ [] := fun h0 => by rw [h0] at h3; simp at h3
      obtain ⟨m1, m2, m3⟩ := dw (holdc hne)
      rw [if_pos ⟨h3.1.2, old, iI.2 ⟨m1, m2, m3⟩, h3.2⟩]
    refine ae (aU rfl (ab 7 tk34 rfl rfl rfl) ?_)
    refine aj (q := false) rfl (bF [] [5, 6] (by kernel_rfl) rfl rfl rfl rfl (iZ a b st.fa d.p) ?_)
    rintro _ _ _ ⟨rfl, rfl⟩
    refine aST ?_
    refine aNs (az ?_)
    refine aX [] (by kernel_rfl) ?_
    show aB _ _ _ _ _ 5 #[false, false, false, false, false] _
    refine bV 0 rfl rfl (ab 8 tk63 rfl rfl rfl) ?_
    refine bV 1 rfl rfl (bw (by kernel_rfl) rfl (fun w S fp hst => (jy _).quiet0 hst)) ?_
    refine bV 2 rfl rfl (ab 10 tk63 rfl rfl rfl) ?_
    refine bV 3 rfl rfl (bw (by kernel_rfl) rfl (fun w S fp hst => (jy _).quiet0 hst)) ?_
    refine bV 4 rfl rfl (bt rfl rfl) ?_
    refine bD (by kernel_rfl) ?_
    refine av ?_
    refine ah _ rfl (fun h4 => ?_) (fun h4 => ?_)
    ·skip
     have hcs : cC (jX x.kp.l L d) d.key d.p = chP x.kp.l (L ++ [d]) := by rw [jO hdef holdf holdc, if_pos (show dB d < dB old from of_decide_eq_true h4)]
     refine aX [6] (by kernel_rfl) ?_
     show aB _ _ _ _ _ 7 #[false, false, false, false, false, false, false] _
     refine bV 0 rfl rfl (aN (o := 0) tk101 rfl (.of (an 0 rfl)) rfl) ?_
     refine bV 1 rfl rfl (bq rfl) ?_
     refine bV 2 rfl rfl (qFA (off := 6) rfl) ?_
     refine bV 3 rfl rfl (aN (o := 6) tk103 rfl (.of (an 1 rfl)) rfl) ?_
     refine bV 4 rfl rfl (ab 9 tk157 rfl rfl rfl) ?_
     refine bV 5 rfl rfl (ab 7 tk34 rfl rfl rfl) ?_
     refine bM 6 rfl (by kernel_rfl) rfl rfl (cY (k := d.key) (v := d.p) 2 Tryz.underlying103 (kyK) rfl rfl rfl rfl ?_)
     refine bST rfl ?_
     refine bD (by kernel_rfl) ?_
     refine av (fP 1 d.key rfl ?_)
     refine aX [7, 9, 11] (by kernel_rfl) ?_
     show aB _ _ _ _ _ 12 #[false, false, false, false, false, false, false, false, false, false, false, false] _
     refine bV 0 rfl rfl (aN (o := 0) tk101 rfl (.of (an 0 rfl)) rfl) ?_
     refine bV 1 rfl rfl (bq rfl) ?_
     refine bV 2 rfl rfl (qFA (off := 5) rfl) ?_
     refine bV 3 rfl rfl (aN (o := 5) tk102 rfl (.of (an 1 rfl)) rfl) ?_
     refine bV 4 rfl rfl (ab 9 tk157 rfl rfl rfl) ?_
     refine bV 5 rfl rfl (ab 7 tk34 rfl rfl rfl) ?_
     refine bM (q := true) 6 rfl (by kernel_rfl) rfl rfl (cG (zs := [.int .i64 0, .int .i64 0]) (l := [(0, .tmp 94)]) el158 (by kernel_rfl) (by decide) (by decide) (by decide) rfl rfl rfl (.more rfl (.v rfl (.v rfl .nil)) .nil) rfl rfl (fun v11_6 => ?_))
     refine bST rfl ?_
     refine bM 7 rfl (by kernel_rfl) rfl rfl (ir (k := d.key) (v0 := (⟨none, 0, []⟩ : Sl aD)) 0 Tryz.underlying102 (kyK) (by kernel_rfl) rfl rfl rfl rfl (fun z11_7 => ?_))
     refine bST rfl ?_
     refine bV 8 rfl rfl (bc rfl rfl) ?_
     refine sx 10 rfl (by kernel_rfl) true rfl rfl (fun _ => bc rfl rfl) ?_
     refine bM 9 rfl (by kernel_rfl) rfl rfl (cE 11 el158 rfl rfl rfl rfl (dH 12 el158 rfl (by simp)) (by first | assumption | simp) (by show ((cn st.mA d.key).l.map aD.row).length + 1 ≤ _; rw [List.length_map]; exact Nat.le_trans (Nat.add_le_add_right hlA2 1) (by decide)) (((cn st.mA d.key).l ++ [d.p]).length) (by show ((cn st.mA d.key).l.map aD.row).length + 1 = _; rw [List.length_map, List.length_append]; rfl) (fun v11_9 c11_9 => ?_))
     refine bST rfl ?_
     refine bM 11 rfl (by kernel_rfl) rfl rfl (fV (k := d.key) (v := (⟨v11_9, c11_9, (cn st.mA d.key).l ++ [d.p]⟩ : Sl aD)) 0 (kyK) rfl rfl rfl rfl ?_)
     refine bST rfl ?_
     refine bD (by kernel_rfl) ?_
     rw [hcs, i6]
     refine iL [] [0, 1, 2, 3, 4, 5, 6, 11] rfl Tryz.results84 ?_ (.inl rfl)
     exact ⟨rfl, .inr ⟨⟨v11_9, c11_9, (cn st.mA d.key).l ++ [d.p]⟩, mN, _, _, _, hI.step hdef rfl hmN hfa (hI.lt hA), rfl, (by rw [List.map_append]; rfl), rfl⟩⟩
    ·skip
     have hcs : jX x.kp.l L d = chP x.kp.l (L ++ [d]) := by rw [jO hdef holdf holdc, if_neg (show ¬ dB d < dB old from of_decide_eq_false h4)]
     refine au (av (fP 1 d.key rfl ?_))
     refine aX [7, 9, 11] (by kernel_rfl) ?_
     show aB _ _ _ _ _ 12 #[false, false, false, false, false, false, false, false, false, false, false, false] _
     refine bV 0 rfl rfl (aN (o := 0) tk101 rfl (.of (an 0 rfl)) rfl) ?_
     refine bV 1 rfl rfl (bq rfl) ?_
     refine bV 2 rfl rfl (qFA (off := 5) rfl) ?_
     refine bV 3 rfl rfl (aN (o := 5) tk102 rfl (.of (an 1 rfl)) rfl) ?_
     refine bV 4 rfl rfl (ab 9 tk157 rfl rfl rfl) ?_
     refine bV 5 rfl rfl (ab 7 tk34 rfl rfl rfl) ?_
     refine bM (q := true) 6 rfl (by kernel_rfl) rfl rfl (cG (zs := [.int .i64 0, .int .i64 0]) (l := [(0, .tmp 94)]) el158 (by kernel_rfl) (by decide) (by decide) (by decide) rfl rfl rfl (.more rfl (.v rfl (.v rfl .nil)) .nil) rfl rfl (fun v11_6 => ?_))
     refine bST rfl ?_
     refine bM 7 rfl (by kernel_rfl) rfl rfl (ir (k := d.key) (v0 := (⟨none, 0, []⟩ : Sl aD)) 0 Tryz.underlying102 (kyK) (by kernel_rfl) rfl rfl rfl rfl (fun z11_7 => ?_))
     refine bST rfl ?_
     refine bV 8 rfl rfl (bc rfl rfl) ?_
     refine sx 10 rfl (by kernel_rfl) true rfl rfl (fun _ => bc rfl rfl) ?_
     refine bM 9 rfl (by kernel_rfl) rfl rfl (cE 11 el158 rfl rfl rfl rfl (dH 12 el158 rfl (by simp)) (by first | assumption | simp) (by show ((cn st.mA d.key).l.map aD.row).length + 1 ≤ _; rw [List.length_map]; exact Nat.le_trans (Nat.add_le_add_right hlA2 1) (by decide)) (((cn st.mA d.key).l ++ [d.p]).length) (by show ((cn st.mA d.key).l.map aD.row).length + 1 = _; rw [List.length_map, List.length_append]; rfl) (fun v11_9 c11_9 => ?_))
     refine bST rfl ?_
     refine bM 11 rfl (by kernel_rfl) rfl rfl (fV (k := d.key) (v := (⟨v11_9, c11_9, (cn st.mA d.key).l ++ [d.p]⟩ : Sl aD)) 0 (kyK) rfl rfl rfl rfl ?_)
     refine bST rfl ?_
     refine bD (by kernel_rfl) ?_
     rw [hcs, i6]
     refine iL [] [0, 1, 2, 3, 4, 5, 6, 11] rfl Tryz.results84 ?_ (.inl rfl)
     exact ⟨rfl, .inr ⟨⟨v11_9, c11_9, (cn st.mA d.key).l ++ [d.p]⟩, mN, _, _, _, hI.step hdef rfl hmN hfa (hI.lt hA), rfl, (by rw [List.map_append]; rfl), rfl⟩⟩
   ·skip
    have hfa : st.fa = if d.s.bind = 1 ∧ ∃ e ∈ db x.kp.l L d.key, e.s.bind = 1 then dO st.fa d.p else st.fa := by
      rw [if_neg]
      rintro ⟨g1, e, he, g2⟩
      have hne : db x.kp.l L d.key ≠ [] := fun h0 => by rw [h0] at he; cases he
      have hr := pe (holdc hne) e he
      have ho : old.s.bind = 1 := by
        unfold dB at hr
        rw [if_pos g2] at hr
        split at hr
        · assumption
        · split at hr <;> omega
      have hl0 : 0 < (db x.kp.l L d.key).length := List.length_pos_iff.2 hne
      rw [hlA] at h3
      simp [g1, ho] at h3
      exact hne h3
    refine au (av (az (az ?_)))
    refine aX [] (by kernel_rfl) ?_
    show aB _ _ _ _ _ 5 #[false, false, false, false, false] _
    refine bV 0 rfl rfl (ab 8 tk63 rfl rfl rfl) ?_
    refine bV 1 rfl rfl (bw (by kernel_rfl) rfl (fun w S fp hst => (jy _).quiet0 hst)) ?_
    refine bV 2 rfl rfl (ab 10 tk63 rfl rfl rfl) ?_
    refine bV 3 rfl rfl (bw (by kernel_rfl) rfl (fun w S fp hst => (jy _).quiet0 hst)) ?_
    refine bV 4 rfl rfl (bt rfl rfl) ?_
    refine bD (by kernel_rfl) ?_
    refine av ?_
    refine ah _ rfl (fun h5 => ?_) (fun h5 => ?_)
    ·skip
     have hcs : cC (jX x.kp.l L d) d.key d.p = chP x.kp.l (L ++ [d]) := by rw [jO hdef holdf holdc, if_pos (show dB d < dB old from of_decide_eq_true h5)]
     refine aX [6] (by kernel_rfl) ?_
     show aB _ _ _ _ _ 7 #[false, false, false, false, false, false, false] _
     refine bV 0 rfl rfl (aN (o := 0) tk101 rfl (.of (an 0 rfl)) rfl) ?_
     refine bV 1 rfl rfl (bq rfl) ?_
     refine bV 2 rfl rfl (qFA (off := 6) rfl) ?_
     refine bV 3 rfl rfl (aN (o := 6) tk103 rfl (.of (an 1 rfl)) rfl) ?_
     refine bV 4 rfl rfl (ab 9 tk157 rfl rfl rfl) ?_
     refine bV 5 rfl rfl (ab 7 tk34 rfl rfl rfl) ?_
     refine bM 6 rfl (by kernel_rfl) rfl rfl (cY (k := d.key) (v := d.p) 2 Tryz.underlying103 (kyK) rfl rfl rfl rfl ?_)
     refine bST rfl ?_
     refine bD (by kernel_rfl) ?_
     refine av (fP 1 d.key rfl ?_)
     refine aX [7, 9, 11] (by kernel_rfl) ?_
     show aB _ _ _ _ _ 12 #[false, false, false, false, false, false, false, false, false, false, false, false] _
     refine bV 0 rfl rfl (aN (o := 0) tk101 rfl (.of (an 0 rfl)) rfl) ?_
     refine bV 1 rfl rfl (bq rfl) ?_
     refine bV 2 rfl rfl (qFA (off := 5) rfl) ?_
     refine bV 3 rfl rfl (aN (o := 5) tk102 rfl (.of (an 1 rfl)) rfl) ?_
     refine bV 4 rfl rfl (ab 9 tk157 rfl rfl rfl) ?_
     refine bV 5 rfl rfl (ab 7 tk34 rfl rfl rfl) ?_
     refine bM (q := true) 6 rfl (by kernel_rfl) rfl rfl (cG (zs := [.int .i64 0, .int .i64 0]) (l := [(0, .tmp 94)]) el158 (by kernel_rfl) (by decide) (by decide) (by decide) rfl rfl rfl (.more rfl (.v rfl (.v rfl .nil)) .nil) rfl rfl (fun v11_6 => ?_))
     refine bST rfl ?_
     refine bM 7 rfl (by kernel_rfl) rfl rfl (ir (k := d.key) (v0 := (⟨none, 0, []⟩ : Sl aD)) 0 Tryz.underlying102 (kyK) (by kernel_rfl) rfl rfl rfl rfl (fun z11_7 => ?_))
     refine bST rfl ?_
     refine bV 8 rfl rfl (bc rfl rfl) ?_
     refine sx 10 rfl (by kernel_rfl) true rfl rfl (fun _ => bc rfl rfl) ?_
     refine bM 9 rfl (by kernel_rfl) rfl rfl (cE 11 el158 rfl rfl rfl rfl (dH 12 el158 rfl (by simp)) (by first | assumption | simp) (by show ((cn st.mA d.key).l.map aD.row).length + 1 ≤ _; rw [List.length_map]; exact Nat.le_trans (Nat.add_le_add_right hlA2 1) (by decide)) (((cn st.mA d.key).l ++ [d.p]).length) (by show ((cn st.mA d.key).l.map aD.row).length + 1 = _; rw [List.length_map, List.length_append]; rfl) (fun v11_9 c11_9 => ?_))
     refine bST rfl ?_
     refine bM 11 rfl (by kernel_rfl) rfl rfl (fV (k := d.key) (v := (⟨v11_9, c11_9, (cn st.mA d.key).l ++ [d.p]⟩ : Sl aD)) 0 (kyK) rfl rfl rfl rfl ?_)
     refine bST rfl ?_
     refine bD (by kernel_rfl) ?_
     rw [hcs, i6]
     refine iL [] [0, 1, 2, 3, 4, 5, 6, 11] rfl Tryz.results84 ?_ (.inl rfl)
     exact ⟨rfl, .inr ⟨⟨v11_9, c11_9, (cn st.mA d.key).l ++ [d.p]⟩, mN, _, _, _, hI.step hdef rfl hmN hfa (hI.lt hA), rfl, (by rw [List.map_append]; rfl), rfl⟩⟩
    ·skip
     have hcs : jX x.kp.l L d = chP x.kp.l (L ++ [d]) := by rw [jO hdef holdf holdc, if_neg (show ¬ dB d < dB old from of_decide_eq_false h5)]
     refine au (av (fP 1 d.key rfl ?_))
     refine aX [7, 9, 11] (by kernel_rfl) ?_
     show aB _ _ _ _ _ 12 #[false, false, false, false, false, false, false, false, false, false, false, false] _
     refine bV 0 rfl rfl (aN (o := 0) tk101 rfl (.of (an 0 rfl)) rfl) ?_
     refine bV 1 rfl rfl (bq rfl) ?_
     refine bV 2 rfl rfl (qFA (off := 5) rfl) ?_
     refine bV 3 rfl rfl (aN (o := 5) tk102 rfl (.of (an 1 rfl)) rfl) ?_
     refine bV 4 rfl rfl (ab 9 tk157 rfl rfl rfl) ?_
     refine bV 5 rfl rfl (ab 7 tk34 rfl rfl rfl) ?_
     refine bM (q := true) 6 rfl (by kernel_rfl) rfl rfl (cG (zs := [.int .i64 0, .int .i64 0]) (l := [(0, .tmp 94)]) el158 (by kernel_rfl) (by decide) (by decide) (by decide) rfl rfl rfl (.more rfl (.v rfl (.v rfl .nil)) .nil) rfl rfl (fun v11_6 => ?_))
     refine bST rfl ?_
     refine bM 7 rfl (by kernel_rfl) rfl rfl (ir (k := d.key) (v0 := (⟨none, 0, []⟩ : Sl aD)) 0 Tryz.underlying102 (kyK) (by kernel_rfl) rfl rfl rfl rfl (fun z11_7 => ?_))
     refine bST rfl ?_
     refine bV 8 rfl rfl (bc rfl rfl) ?_
     refine sx 10 rfl (by kernel_rfl) true rfl rfl (fun _ => bc rfl rfl) ?_
     refine bM 9 rfl (by kernel_rfl) rfl rfl (cE 11 el158 rfl rfl rfl rfl (dH 12 el158 rfl (by simp)) (by first | assumption | simp) (by show ((cn st.mA d.key).l.map aD.row).length + 1 ≤ _; rw [List.length_map]; exact Nat.le_trans (Nat.add_le_add_right hlA2 1) (by decide)) (((cn st.mA d.key).l ++ [d.p]).length) (by show ((cn st.mA d.key).l.map aD.row).length + 1 = _; rw [List.length_map, List.length_append]; rfl) (fun v11_9 c11_9 => ?_))
     refine bST rfl ?_
     refine bM 11 rfl (by kernel_rfl) rfl rfl (fV (k := d.key) (v := (⟨v11_9, c11_9, (cn st.mA d.key).l ++ [d.p]⟩ : Sl aD)) 0 (kyK) rfl rfl rfl rfl ?_)
     refine bST rfl ?_
     refine bD (by kernel_rfl) ?_
     rw [hcs, i6]
     refine iL [] [0, 1, 2, 3, 4, 5, 6, 11] rfl Tryz.results84 ?_ (.inl rfl)
     exact ⟨rfl, .inr ⟨⟨v11_9, c11_9, (cn st.mA d.key).l ++ [d.p]⟩, mN, _, _, _, hI.step hdef rfl hmN hfa (hI.lt hA), rfl, (by rw [List.map_append]; rfl), rfl⟩⟩
end Go.Proofs.YtgmiihmahaahiaaGreatDoor

namespace Go.Proofs.YtgmiihmahaahiaaGreatDoor
open Go.RowKit Go.Lp Go.Sy
open Go.Proofs.Tryz
attribute [local irreducible] aL aB awp aC fwp
theorem wC (ad : Option Addr) (c : Nat) (v : Bool) (N : Nat) (hN : N ≤ 1000000) : Con Tryz.prog 31 [.slice ad 1 c, .int .i64 N] [Sh (.slice ad 1 c) (.sl (eW Value.bool [v]))] [] fun r ps hp => ps = [] ∧ hp = [bA r 4 1 (eW Value.bool (List.replicate N v))] := by
 rcases Nat.eq_zero_or_pos N with rfl | h
 · exact ui v
 · exact uv v N hN h
def kR (m : ByteArray → Option Cp) : Per := ⟨fun w S => ∀ n c, m n = some c → c.ok.holds w S, fun h h1 h2 n c hc => c.ok.mono (h n c hc) h1 h2⟩
abbrev cp0 : Cp := ⟨0, ⟨none, 0, []⟩, ⟨none, 0, []⟩⟩
theorem uZ {ps : List Per} {m : ByteArray → Option Cp} (h : Ent ps (kR m)) {n : ByteArray} (hn : (m n).isSome = true) : Ent ps ((m n).getD cp0).ok := fun w S hp => by
 obtain ⟨c, hc⟩ := Option.isSome_iff_exists.1 hn
 rw [hc]; exact h w S hp n c hc
theorem ua {ps : List Per} {m : ByteArray → Option Cp} (h : Ent ps (kR m)) {n : ByteArray} {c : Cp} (hc : Ent ps c.ok) : Ent ps (kR (cC m n c)) := fun w S hp a c2 hm => by
 unfold cC at hm
 split at hm
 · rw [← Option.some.inj hm]; exact hc w S hp
 · exact h w S hp a c2 hm
theorem uL {ps : List Per} {K : List (Sl Bool)} {s : Sl Bool} (h : Ent ps (bP (ShF bR) K)) (hs : Ent ps (ShF bR s)) : Ent ps (bP (ShF bR) (K ++ [s])) := fun w S hp x hx => by
 rcases List.mem_append.1 hx with hx | hx
 · exact h w S hp x hx
 · rw [List.mem_singleton.1 hx]; exact hs w S hp
abbrev rp : ByteArray × (Int × Int) → List D := fun x => [.v (.string x.1), .v (.int .i64 x.2.1), .v (.int .i64 x.2.2)]
theorem uJ {os : List ax} {K : List (Sl Bool)} {s : Sl Bool} (h : ∀ i : Nat, i < K.length → (elt K (i : Int)).l.length = (elt os (i : Int)).secs.l.length) (hs : s.l.length = (elt os (K.length : Int)).secs.l.length) : ∀ i : Nat, i < K.length + 1 → (elt (K ++ [s]) (i : Int)).l.length = (elt os (i : Int)).secs.l.length := fun i hi => by
 have h1 := bN (l := K ++ [s]) (i := i) (by rw [List.length_append]; exact hi)
 by_cases hlt : i < K.length
 · rw [List.getElem?_append_left hlt, bN hlt] at h1
   rw [← Option.some.inj h1]; exact h i hlt
 · obtain rfl : i = K.length := by omega
   rw [List.getElem?_append_right (Nat.le_refl _), Nat.sub_self] at h1
   rw [← Option.some.inj h1]; exact hs
theorem wA (os : Sl ax) (hn : os.l.length ≤ 1000) (hf : ∀ o ∈ os.l, sP o) (hr : ∀ o ∈ os.l, yZ o) :
   Con Tryz.prog 12 [os.val] [dn, dm, ShF ax.row os, bP ax.ok os.l] [] fun r ps hp => hp = [] ∧ ∃ (K : Sl (Sl Bool)) (dv : Value), r = .tuple #[K.val, dv] ∧ K.l.length = os.l.length ∧ (∀ i : Nat, i < os.l.length → (elt K.l (i : Int)).l.length = (elt os.l (i : Int)).secs.l.length) ∧ ps = [bP (ShF bR) K.l, ShF slR K] := by
 refine Con.conv (R := fun r ps hp => ∃ (ka : Option Addr) (kc : Nat) (K : List (Sl Bool)) (dv : Value), r = .tuple #[.slice ka K.length kc, dv] ∧ K.length = os.l.length ∧ (∀ i : Nat, i < os.l.length → (elt K (i : Int)).l.length = (elt os.l (i : Int)).secs.l.length) ∧ ps = [bP (ShF bR) K] ∧ hp = [bA (.slice ka K.length kc) 68 1 (K.map slR)]) ?_ fun _ _ _ ⟨ka, kc, K, dv, h1, h2, h3, h4, h5⟩ => ?_
 rotate_left
 · subst h1 h4 h5
   exact ⟨_, _, (StE.share 0 (ShF slR ⟨ka, kc, K⟩) rfl fun _ _ _ h => eF h).trans (StE.keep [0, 1] [] rfl |>.trans (StE.ents (ps' := [bP (ShF bR) K, ShF slR ⟨ka, kc, K⟩]) (eD (.of (an 0 rfl)) (.of (an 1 rfl))))), rfl, ⟨ka, kc, K⟩, dv, rfl, h2, h3, rfl⟩
 refine Con.enter Tryz.func12 rfl (by simp [Tryz.ntmps12]) ?_
 show awp _ _ _ _ ⟨[(0, true, _)], _, _⟩
 refine bd (.of (an 2 rfl)) (fun hlen => ?_)
 refine aSR (aA rfl (aA rfl (aNn (aSR (aA rfl (aNn (aSR (aA rfl (aNn (aSR ?_))))))))))
 refine aj (q := true) rfl (dY (dK) (Cp.val) rfl (fun b3_0 => ?_))
 refine aHN ?_
 refine aA rfl (aNs (az ?_))
 refine eb 68 1 (eb 100 3 ?_)
 refine ei (kR (fun _ => none)) (fun _ _ _ _ _ h => by cases h) (ei (bP (ShF bR) []) (fun _ _ _ _ h => by cases h) ?_)
 show awp _ _ _ _ ⟨_, _, [_, _, _]⟩
 refine ae (aM rfl (aU rfl (aZ Tryz.underlying22 rfl) (aM rfl (aNn (aw (aP [0, 4, 5, 6, 19, 20, 21] [5, 4, 3, 2, 1, 0] [0, 1, 2] (fun (q : Nat × ((Value × List (Sl Bool)) × ((Value × List (ByteArray × (Int × Int))) × (ByteArray → Option Cp)))) st => (q.1 ≤ os.l.length ∧ q.2.1.2.length = q.1 ∧ (∀ i : Nat, i < q.1 → (elt q.2.1.2 (i : Int)).l.length = (elt os.l (i : Int)).secs.l.length) ∧ q.2.2.1.2.length ≤ 1000 * q.1) ∧ st = ⟨[(0, true, os.val), (4, true, q.2.1.1), (5, true, q.2.2.1.1), (6, true, .map (some b3_0)), (19, true, os.val), (20, true, .int .i64 os.l.length), (21, true, .int .i64 q.1)], [bP (ShF bR) q.2.1.2, kR q.2.2.2, dn, dm, ShF ax.row os, bP ax.ok os.l], [dg b3_0 dK Cp.val q.2.2.2, bA q.2.1.1 68 1 (q.2.1.2.map slR), bA q.2.2.1.1 100 3 (q.2.2.1.2.map rp)]⟩) (fun q => os.l.length - q.1) rfl (⟨(0, ((.slice none 0 0, []), ((.slice none 0 0, []), fun _ => none))), ⟨Nat.zero_le _, rfl, (fun (i : Nat) (h : i < 0) => absurd h (Nat.not_lt_zero i)), Nat.le_refl _⟩, rfl⟩) ?_))))))
 rintro ⟨i, ⟨kv, K⟩, ⟨dv, df⟩, m⟩ st ⟨⟨hi, hK, hKl, hd⟩, rfl⟩
 dsimp only at hi hK hKl hd ⊢
 refine aSR (aU rfl (bt rfl rfl) (aNs ?_))
 refine ah _ rfl (fun h1 => ?_) (fun h1 => ?_)
 ·skip
  have hi' : i < os.l.length := by simpa using h1
  have ho := bN hi'
  have hmem := List.mem_of_getElem? ho
  have hfo := hf _ hmem
  have hro := hr _ hmem
  generalize hoo : elt os.l (i : Int) = o at ho hmem hfo hro
  refine au (av (az (aw (aSR (aM rfl ?_)))))
  refine ck true rfl rfl (fun _ => ai Tryz.underlying22 tk61 rfl ((.of (an 4 rfl))) rfl (aJ ho) rfl rfl) (fun h => absurd h (by decide)) (fun ⟨b6_1, o6_1⟩ => ?_)
  refine aU rfl (aF (o := 0) tk61 rfl (an 0 rfl) rfl rfl) ?_
  refine aj (q := true) rfl (bp (zs := [.string .empty, .slice none 0 0, .slice none 0 0, .slice none 0 0, .slice none 0 0, .slice none 0 0, .slice none 0 0, .slice none 0 0, .slice none 0 0, .slice none 0 0, .slice none 0 0]) (by kernel_rfl) rfl (fun b6_3 => ?_))
  refine aHN ?_
  refine aA rfl ?_
  refine aj rfl (aT 3 tk61 rfl rfl rfl rfl ?_)
  refine aHK ?_
  refine aNs ?_
  refine bd (ax.f_secs (Ent.all (.of (an 6 rfl)) ho)) (fun hls => ?_)
  refine bd (ax.f_groups (Ent.all (.of (an 6 rfl)) ho)) (fun hlg => ?_)
  refine ae ?_
  refine fW (zs := [.bool false]) (l := [(0, .const (.bool true))]) el68 (by kernel_rfl) (by decide) (by decide) (by decide) rfl _ rfl (fun hc => rfl) rfl (.more rfl (.v rfl .nil) .nil) rfl rfl (fun v7_0 => ?_)
  refine aU rfl (qFA (off := 1) rfl) ?_
  refine aU rfl (ab 3 tk50 rfl rfl rfl) (aU rfl (aZ Tryz.underlying50 rfl) ?_)
  refine aj (q := true) rfl (bF [7] [] (by kernel_rfl) rfl rfl rfl rfl ((wC v7_0 1 true o.secs.l.length (by have := hfo.secs; omega)).pre (fun p hp => (List.mem_singleton.1 hp) ▸ .yes (.of (an 0 rfl)) rfl)) ?_)
  rintro r7 _ _ ⟨rfl, rfl⟩
  refine aST ?_
  refine aA rfl (aNs (aSR ?_))
  refine aU rfl (qFA (off := 4) rfl) ?_
  refine aU rfl (ab 3 tk53 rfl rfl rfl) (aU rfl (aZ Tryz.underlying53 rfl) (aM rfl (aNn (aw ?_))))
  refine aP [0, 4, 5, 6, 7, 8, 9, 19, 20, 21, 32, 33, 34] [5, 4, 3, 2, 1, 0] [0, 1, 2, 3, 4] (fun (q : Nat × ((Value × List (ByteArray × (Int × Int))) × ((ByteArray → Option Cp) × List Bool))) st => (q.1 ≤ o.groups.l.length ∧ q.2.1.2.length ≤ df.length + q.1 ∧ q.2.2.2.length = o.secs.l.length) ∧ st = ⟨[(0, true, os.val), (4, true, kv), (5, true, q.2.1.1), (6, true, .map (some b3_0)), (7, true, .int .i64 i), (8, true, .pointer (some ⟨b6_3, 0, none⟩)), (9, true, r7), (19, true, os.val), (20, true, .int .i64 os.l.length), (21, true, .int .i64 i), (32, true, o.groups.val), (33, true, .int .i64 o.groups.l.length), (34, true, .int .i64 q.1)], [bP (ShF bR) K, kR q.2.2.1, dn, dm, ShF ax.row os, bP ax.ok os.l], [dg b3_0 dK Cp.val q.2.2.1, bA kv 68 1 (K.map slR), bA q.2.1.1 100 3 (q.2.1.2.map rp), Box b6_3 61 o.vs, bA r7 4 1 (q.2.2.2.map bR)]⟩) (fun q => o.groups.l.length - q.1) rfl (⟨(0, ((dv, df), (m, List.replicate o.secs.l.length true))), ⟨Nat.zero_le _, Nat.le_refl _, by simp⟩, rfl⟩) ?_
  rintro ⟨j, ⟨dv2, df2⟩, m2, ks⟩ st ⟨⟨hj, hd2, hks⟩, rfl⟩
  dsimp only at hj hd2 hks ⊢
  refine aSR (aU rfl (bt rfl rfl) (aNs ?_))
  refine ah _ rfl (fun h2 => ?_) (fun h2 => ?_)
  ·skip
   have hj' : j < o.groups.l.length := by simpa using h2
   obtain ⟨g, hg⟩ : ∃ g, o.groups.l[j]? = some g := ⟨_, List.getElem?_eq_getElem hj'⟩
   have hgr := hro.groups g (List.mem_of_getElem? hg)
   have hfs := hfo.secs
   refine au (av (az (aw (aSR ?_))))
   refine ck true rfl rfl (fun _ => ai Tryz.underlying53 tk92 rfl ((ax.f_groups (Ent.all (.of (an 5 rfl)) ho))) rfl (aJ hg) rfl rfl) (fun h => absurd h (by decide)) (fun ⟨b10_0, o10_0⟩ => ?_)
   refine aU rfl (aF (o := 0) tk92 rfl (an 0 rfl) rfl rfl) ?_
   refine aj (q := true) rfl (bp (zs := [.string .empty, .slice none 0 0]) (by kernel_rfl) rfl (fun b10_2 => ?_))
   refine aHN ?_
   refine aj rfl (aT 5 tk92 rfl rfl rfl rfl ?_)
   refine aHK ?_
   refine aNn (aSR (aU rfl (ab 3 tk61 rfl rfl rfl) (aU rfl (ab 5 tk92 rfl rfl rfl) ?_)))
   refine aj (q := true) rfl (bF [0] [] (by kernel_rfl) rfl rfl rfl rfl ((po o g (by omega) hgr.2).pre (eD (cS.f_secs (Ent.all (ax.f_groupsA (Ent.all (.of (an 0 rfl)) ho)) hg)) (Ent.all (.of (an 0 rfl)) ho))) ?_)
   rintro _ _ _ ⟨rfl, sl, hsl, rfl, rfl⟩
   refine aST ?_
   refine aA rfl (aNn (aSR (aM rfl (aM rfl (aM rfl ?_)))))
   refine aj (q := true) rfl (bF [7, 3, 2, 1, 0] [] (by kernel_rfl) rfl rfl rfl rfl (xy os i hi' (by rw [hoo]; exact hro.secs) sl (by rw [hsl]; omega) (by rw [hoo, hsl]; exact hgr.2)) ?_)
   rintro _ _ _ ⟨rfl, cp, rfl, rfl⟩
   refine aST ?_
   refine aj (q := true) rfl (bp (zs := [.int .i64 0, .slice none 0 0, .slice none 0 0]) (by kernel_rfl) rfl (fun b12_4 => ?_))
   refine aHN ?_
   refine aj rfl (aT 6 tk95 rfl rfl rfl rfl ?_)
   refine aHK ?_
   refine aNn (aSR (aM rfl ?_))
   refine aU rfl (qFA (off := 0) rfl) ?_
   refine aU rfl (ab 5 tk9 rfl rfl rfl) ?_
   refine aU rfl (qL (k := g.name) (v0 := cp0) 0 Tryz.underlying88 (kyT) (by kernel_rfl) rfl rfl rfl) ?_
   refine aM rfl (aU rfl (bc rfl rfl) (aU rfl (bc rfl rfl) ?_))
   refine aj (q := true) rfl (bp (zs := [.int .i64 0, .slice none 0 0, .slice none 0 0]) (by kernel_rfl) rfl (fun b13_7 => ?_))
   refine aHN ?_
   refine aj rfl (aT 7 tk95 rfl rfl rfl rfl ?_)
   refine aHK ?_
   refine aA rfl (aNs (aSR (aM rfl (aU rfl (bT rfl) (aNn ?_)))))
   refine ah _ rfl (fun h3 => ?_) (fun h3 => ?_)
   ·skip
    refine az (ei (kR (cC m2 g.name cp)) (ua (.of (an 4 rfl)) (.of (an 0 rfl))) (ae (aM rfl ?_)))
    refine aU rfl (qFA (off := 0) rfl) ?_
    refine aU rfl (ab 5 tk9 rfl rfl rfl) (aU rfl (ab 6 tk95 rfl rfl rfl) ?_)
    refine aj rfl (cY (k := g.name) (v := cp) 0 Tryz.underlying88 (kyT) rfl rfl rfl rfl ?_)
    refine aHK ?_
    refine aNn (aR (aS (aY (av (ae ?_)))))
    refine aU rfl (bf rfl rfl (by omega)) ?_
    refine aM rfl (aNn ?_)
    refine ⟨[0, 4, 5, 6, 7, 8, 9, 19, 20, 21, 32, 33, 34], [5, 9, 3, 2, 1, 0], [0, 1, 2, 3, 4], rfl, ?_⟩
    exact ⟨(j + 1, ((dv2, df2), (cC m2 g.name cp, ks))), ⟨⟨by dsimp only; omega, by dsimp only; omega, hks⟩, rfl⟩, by dsimp only; omega⟩
   ·skip
    have hsome : (m2 g.name).isSome = true := by simpa using h3
    refine au (av (az (az ?_)))
    refine bd (.of (an 1 rfl)) (fun hsl2 => ?_)
    refine ae (aM rfl (aU rfl (aZ Tryz.underlying90 rfl) (aM rfl (aNn (aw (aP [0, 4, 5, 6, 7, 8, 9, 11, 13, 14, 19, 20, 21, 32, 33, 34, 58, 59, 60] [8, 7, 5, 4, 3, 2, 1, 0] [0, 1, 2, 3, 4, 5, 6, 7] (fun (q : Nat × List Bool) st => (q.1 ≤ sl.l.length ∧ q.2.length = o.secs.l.length) ∧ st = ⟨[(0, true, os.val), (4, true, kv), (5, true, dv2), (6, true, .map (some b3_0)), (7, true, .int .i64 i), (8, true, .pointer (some ⟨b6_3, 0, none⟩)), (9, true, r7), (11, true, .pointer (some ⟨b10_2, 0, none⟩)), (13, true, .pointer (some ⟨b12_4, 0, none⟩)), (14, true, .pointer (some ⟨b13_7, 0, none⟩)), (19, true, os.val), (20, true, .int .i64 os.l.length), (21, true, .int .i64 i), (32, true, o.groups.val), (33, true, .int .i64 o.groups.l.length), (34, true, .int .i64 j), (58, true, sl.val), (59, true, .int .i64 sl.l.length), (60, true, .int .i64 q.1)], [cp.ok, ShF eN sl, bP (ShF bR) K, kR m2, dn, dm, ShF ax.row os, bP ax.ok os.l], [dg b3_0 dK Cp.val m2, bA kv 68 1 (K.map slR), bA dv2 100 3 (df2.map rp), Box b6_3 61 o.vs, bA r7 4 1 (q.2.map bR), Box b10_2 92 g.vs, Box b12_4 95 cp.vs, Box b13_7 95 ((m2 g.name).getD cp0).vs]⟩) (fun q => sl.l.length - q.1) rfl (⟨(0, ks), ⟨Nat.zero_le _, hks⟩, rfl⟩) ?_))))))
    rintro ⟨kk, ks3⟩ st ⟨⟨hkk, hks3⟩, rfl⟩
    dsimp only at hkk hks3 ⊢
    refine aSR (aU rfl (bt rfl rfl) (aNs ?_))
    refine ah _ rfl (fun h4 => ?_) (fun h4 => ?_)
    ·skip
     have hkk' : kk < sl.l.length := by simpa using h4
     obtain ⟨z, hzk⟩ : ∃ z, sl.l[kk]? = some z := ⟨_, List.getElem?_eq_getElem hkk'⟩
     have hzr := hgr.2 z (by rw [← hsl]; exact List.mem_of_getElem? hzk)
     obtain ⟨z0, rfl⟩ := Int.eq_ofNat_of_zero_le hzr.1
     obtain ⟨bb, hbb⟩ : ∃ bb, ks3[z0]? = some bb := ⟨_, List.getElem?_eq_getElem (by omega)⟩
     refine au (av (az (aw (aSR ?_))))
     refine ck true rfl rfl (fun _ => ai Tryz.underlying90 tk3 rfl ((.of (an 1 rfl))) rfl (aJ hzk) rfl rfl) (fun h => absurd h (by decide)) (fun ⟨b18_0, o18_0⟩ => ?_)
     refine aU rfl (aF (o := 0) tk3 rfl (an 0 rfl) rfl rfl) (aA rfl (aNn (ae (aM rfl (aM rfl ?_)))))
     refine aU rfl (dV 4 z0 el68 rfl rfl rfl rfl (by rw [List.length_map]; omega)) ?_
     refine aj (q := false) rfl (gT 4 z0 0 tk4 rfl rfl rfl (aJ hbb) rfl (.v rfl .nil) rfl (by decide) ?_)
     refine cr (bu (av (ae ?_)))
     refine aU rfl (bf rfl rfl (by omega)) ?_
     refine aM rfl (aNn ?_)
     refine ⟨[0, 4, 5, 6, 7, 8, 9, 11, 13, 14, 19, 20, 21, 32, 33, 34, 58, 59, 60], [7, 6, 5, 4, 3, 2, 1, 0], [0, 1, 2, 3, 4, 5, 6, 7], rfl, ?_⟩
     exact ⟨(kk + 1, ks3.set z0 false), ⟨⟨by dsimp only; omega, by dsimp only; rw [List.length_set]; exact hks3⟩, by dsimp only; rw [List.map_set]; rfl⟩, by dsimp only; omega⟩
    ·skip
     refine aR (aS (aS (aY (av (aSR (aU rfl (ab 7 tk95 rfl rfl rfl) (aU rfl (ab 6 tk95 rfl rfl rfl) ?_)))))))
     refine aQ (caps := []) [7, 4] (false) (by kernel_rfl) true rfl rfl (fun _ => rfl) (fun hc => rfl) (fun hc => by rw [List.append_nil]; exact (uM ((m2 g.name).getD cp0) cp).pre (eD (uZ (.of (an 1 rfl)) hsome) (.of (an 0 rfl)))) (fun c5 hc5 => ?_)
     refine aU rfl (bT rfl) (aNn ?_)
     refine ah _ rfl (fun h5 => ?_) (fun h5 => ?_)
     ·skip
      refine ae (aM rfl ?_)
      refine aU rfl (qFA (off := 0) rfl) ?_
      refine aU rfl (ab 5 tk9 rfl rfl rfl) ?_
      refine aU rfl (qFA (off := 0) rfl) ?_
      refine aU rfl (ab 7 tk3 rfl rfl rfl) (aM rfl ?_)
      refine aU rfl (cU (l := [(0, .tmp 74), (1, .tmp 76), (2, .tmp 77)]) (zs := [.string .empty, .int .i64 0, .int .i64 0]) (pl := [(0, 1), (1, 1), (2, 1)]) (by kernel_rfl) (by kernel_rfl) (by kernel_rfl) rfl rfl rfl) ?_
      refine aj (q := true) rfl (cG (zs := [.string .empty, .int .i64 0, .int .i64 0]) (l := [(0, .tmp 78)]) el28 (by kernel_rfl) (by decide) (by decide) (by decide) rfl rfl rfl (.more rfl (.v rfl (.v rfl (.v rfl .nil))) .nil) rfl rfl (fun v22_7 => ?_))
      refine aHN ?_
      refine aj rfl (cE 2 el28 rfl rfl rfl rfl (dH 8 el28 rfl (by simp)) (by first | assumption | simp) (by have := hfo.groups; show (df2.map rp).length + 1 ≤ _; rw [List.length_map]; exact Nat.le_trans (show df2.length + 1 ≤ 2000000 by omega) (by decide)) ((df2.length + 1)) (by show (df2.map rp).length + 1 = _; rw [List.length_map]) (fun v22_8 c22_8 => ?_))
      refine aHK ?_
      refine aA rfl (cr (bu (av (ae ?_))))
      refine aU rfl (bf rfl rfl (by omega)) ?_
      refine aM rfl (aNn ?_)
      refine ⟨[0, 4, 5, 6, 7, 8, 9, 19, 20, 21, 32, 33, 34], [5, 4, 3, 2, 1, 0], [0, 1, 2, 3, 4], rfl, ?_⟩
      exact ⟨(j + 1, ((_, df2 ++ [(g.name, (((m2 g.name).getD cp0).obj, (i : Int)))]), (m2, ks3))), ⟨⟨by dsimp only; omega, by dsimp only; rw [List.length_append]; simp; omega, hks3⟩, by dsimp only; rw [List.map_append]; rfl⟩, by dsimp only; omega⟩
     ·skip
      refine au (bu (av (ae ?_)))
      refine aU rfl (bf rfl rfl (by omega)) ?_
      refine aM rfl (aNn ?_)
      refine ⟨[0, 4, 5, 6, 7, 8, 9, 19, 20, 21, 32, 33, 34], [5, 4, 3, 2, 1, 0], [0, 1, 2, 3, 4], rfl, ?_⟩
      exact ⟨(j + 1, ((dv2, df2), (m2, ks3))), ⟨⟨by dsimp only; omega, by dsimp only; omega, hks3⟩, rfl⟩, by dsimp only; omega⟩
  ·skip
   refine aR (aS (aS (aY (av ?_))))
   refine fN 4 rfl (fun ka kc hv => ?_)
   rw [List.length_map] at hv
   subst hv
   refine fE 4 (ShF bR ⟨ka, kc, ks⟩) rfl (fun _ _ _ h => eF h) (ei (bP (ShF bR) (K ++ [⟨ka, kc, ks⟩])) (uL (.of (an 1 rfl)) (.of (an 0 rfl))) ?_)
   show awp _ _ _ _ ⟨_, [_, _, _, _, _, _, _, _], [_, _, _, _, _]⟩
   refine ae (aM rfl (aM rfl ?_))
   refine aj (q := true) rfl (cG (zs := [.slice none 0 0]) (l := [(0, .tmp 83)]) el27 (by kernel_rfl) (by decide) (by decide) (by decide) rfl rfl rfl (.more rfl (.v rfl .nil) .nil) rfl rfl (fun v24_2 => ?_))
   refine aHN ?_
   refine aj rfl (cE 1 el27 rfl rfl rfl rfl (dH 5 el27 rfl (by simp)) (by first | assumption | simp) (by show (K.map slR).length + 1 ≤ _; rw [List.length_map]; exact Nat.le_trans (show K.length + 1 ≤ 1001 by omega) (by decide)) ((K.length + 1)) (by show (K.map slR).length + 1 = _; rw [List.length_map]) (fun v24_3 c24_3 => ?_))
   refine aHK ?_
   refine aA rfl (cr (bu (av (ae ?_))))
   refine aU rfl (bf rfl rfl (by omega)) ?_
   refine aM rfl (aNn ?_)
   refine ⟨[0, 4, 5, 6, 19, 20, 21], [7, 4, 3, 2, 1, 0], [0, 1, 2], rfl, ?_⟩
   have hje : j = o.groups.l.length := by simp at h2; omega
   have hgg := hfo.groups
   refine ⟨(i + 1, ((_, K ++ [⟨ka, kc, ks⟩]), ((dv2, df2), m2))), ⟨⟨by dsimp only; omega, by dsimp only; rw [List.length_append, hK]; rfl, ?_, by dsimp only; omega⟩, by dsimp only; rw [List.map_append]; rfl⟩, by dsimp only; omega⟩
   dsimp only
   have := uJ (os := os.l) (K := K) (s := ⟨ka, kc, ks⟩) (by rw [hK]; exact hKl) (by rw [hK, hoo]; exact hks)
   rw [hK] at this; exact this
 ·skip
  refine aR (aS (aS (aY (av (az ?_)))))
  refine fN 1 rfl (fun ka kc hv => ?_)
  rw [List.length_map] at hv
  subst hv
  have hie : i = os.l.length := by simp at h1; omega
  refine ae (aM rfl (aM rfl (aA rfl (aA rfl (aNn (aq ?_))))))
  refine jF [5] [1] rfl Tryz.results12 rfl rfl ?_ (.inr rfl)
  exact ⟨ka, kc, K, dv, rfl, by omega, (by rw [← hie]; exact hKl), rfl, rfl⟩
end Go.Proofs.YtgmiihmahaahiaaGreatDoor

namespace Go.Proofs.YtgmiihmahaahiaaGreatDoor
open Go.RowKit Go.Lp Go.Sy
def ga (vs : List aH) (s : ByteArray) : Option Nat := vs.findIdx? fun d => decide (d.name = s)
def gy (vs : List aH) (s : ByteArray) : List ByteArray := match ga vs s with
 | some i => (elt vs (i : Int)).parents.l
 | none => []
inductive Srv (vs : List aH) (a : ByteArray) : ByteArray → Prop where
 | refl : Srv vs a a
 | step {b c : ByteArray} (h : Srv vs a b) (hc : c ∈ gy vs b) : Srv vs a c
section
variable {vs : List aH}
theorem Srv.trans {a b c : ByteArray} (h : Srv vs a b) (k : Srv vs b c) : Srv vs a c := by
 induction k with
 | refl => exact h
 | step _ hc ih => exact .step ih hc
def univ (vs : List aH) (v : ByteArray) : List ByteArray := v :: vs.flatMap fun d => d.parents.l
theorem qv {v s c : ByteArray} (h : c ∈ gy vs s) : c ∈ univ vs v := by
 unfold gy at h
 cases hi : ga vs s with
 | none => rw [hi] at h; cases h
 | some i =>
   rw [hi] at h
   dsimp only at h
   unfold ga at hi
   have hl : i < vs.length := by
     rw [List.findIdx?_eq_some_iff_getElem] at hi; exact hi.1
   exact List.mem_cons_of_mem _ (List.mem_flatMap.2 ⟨_, List.mem_of_getElem? (bN hl), h⟩)
def left {α : Type} [DecidableEq α] (U l : List α) : Nat := U.countP fun x => decide (x ∉ l)
theorem tn {α : Type} [DecidableEq α] {U l l2 : List α} (h : ∀ x ∈ l, x ∈ l2) : left U l2 ≤ left U l := by
 unfold left
 refine List.countP_mono_left fun x _ hx => ?_
 simp only [decide_eq_true_eq] at hx ⊢
 exact fun hh => hx (h x hh)
theorem yx {α : Type} [DecidableEq α] {U l : List α} {s : α} (hU : s ∈ U) (hs : s ∉ l) : left U (l ++ [s]) < left U l := by
 induction U with
 | nil => cases hU
 | cons a U ih =>
   unfold left at *
   rw [List.countP_cons, List.countP_cons]
   have hle : U.countP (fun x => decide (x ∉ l ++ [s])) ≤ U.countP (fun x => decide (x ∉ l)) := tn (U := U) fun x hx => List.mem_append_left _ hx
   rcases List.mem_cons.1 hU with rfl | h
   · rw [if_neg (by simp), if_pos (by simpa using hs)]; omega
   · have := ih h
     by_cases ha : a ∉ l ++ [s]
     · rw [if_pos (by simpa using ha), if_pos (by simp at ha ⊢; exact ha.1)]; omega
     · rw [if_neg (by simpa using ha)]; omega
structure Vis (vs : List aH) (s : ByteArray) (l l2 : List ByteArray) : Prop where
 sub : ∀ x ∈ l, x ∈ l2
 self : s ∈ l2
 from_ : ∀ x ∈ l2, x ∈ l ∨ Srv vs s x
 closed : ∀ x ∈ l2, x ∉ l → ∀ c ∈ gy vs x, c ∈ l2
theorem Vis.hit {s : ByteArray} {l : List ByteArray} (h : s ∈ l) : Vis vs s l l := ⟨fun _ h => h, h, fun _ h => .inl h, fun _ h h2 => (h2 h).elim⟩
structure px (vs : List aH) (s : ByteArray) (l l2 : List ByteArray) (k : Nat) : Prop where
 sub : ∀ x ∈ l ++ [s], x ∈ l2
 from_ : ∀ x ∈ l2, x ∈ l ∨ Srv vs s x
 closed : ∀ x ∈ l2, x ∉ l → x ≠ s → ∀ c ∈ gy vs x, c ∈ l2
 done : ∀ c ∈ (gy vs s).take k, c ∈ l2
theorem px.start {s : ByteArray} {l : List ByteArray} : px vs s l (l ++ [s]) 0 := ⟨fun _ h => h, fun _ h => (List.mem_append.1 h).imp id fun h => by rw [List.mem_singleton.1 h]; exact .refl, fun _ h h1 h2 => by
 rcases List.mem_append.1 h with h | h
 · exact (h1 h).elim
 · exact (h2 (List.mem_singleton.1 h)).elim, fun c h => by rw [List.take_zero] at h; cases h⟩
theorem px.step {s p : ByteArray} {l l2 l3 : List ByteArray} {k : Nat} (h : px vs s l l2 k) (hp : (gy vs s)[k]? = some p) (hv : Vis vs p l2 l3) : px vs s l l3 (k + 1) where
 sub x hx := hv.sub x (h.sub x hx)
 from_ x hx := by
   rcases hv.from_ x hx with h1 | h1
   · exact h.from_ x h1
   · exact .inr ((Srv.step .refl (List.mem_of_getElem? hp)).trans h1)
 closed x hx h1 h2 c hc := by
   by_cases hx2 : x ∈ l2
   · exact hv.sub c (h.closed x hx2 h1 h2 c hc)
   · exact hv.closed x hx hx2 c hc
 done c hc := by
   rw [List.take_add_one, hp, List.mem_append] at hc
   rcases hc with hc | hc
   · exact hv.sub c (h.done c hc)
   · simp at hc; subst hc; exact hv.self
theorem px.fin {s : ByteArray} {l l2 : List ByteArray} {k : Nat} (h : px vs s l l2 k) (hk : (gy vs s).length ≤ k) : Vis vs s l l2 where
 sub x hx := h.sub x (List.mem_append_left _ hx)
 self := h.sub s (by simp)
 from_ := h.from_
 closed x hx h1 c hc := by
   by_cases hs : x = s
   · subst hs; exact h.done c (by rw [List.take_of_length_le hk]; exact hc)
   · exact h.closed x hx h1 hs c hc
theorem Vis.all {s : ByteArray} {l2 : List ByteArray} (h : Vis vs s [] l2) (x : ByteArray) : x ∈ l2 ↔ Srv vs s x := by
 constructor
 · intro hx
   rcases h.from_ x hx with h1 | h1
   · cases h1
   · exact h1
 · intro hx
   induction hx with
   | refl => exact h.self
   | step _ hc ih => exact h.closed _ ih (by simp) _ hc
theorem ou {α : Type} [DecidableEq α] : ∀ (l m : List α), l.Nodup → (∀ x ∈ l, x ∈ m) → l.length ≤ m.length
 | [], _, _, _ => Nat.zero_le _
 | a :: l, m, hn, hs => by
   rw [List.nodup_cons] at hn
   have ha := hs a List.mem_cons_self
   have := ou l (m.erase a) hn.2 fun x hx => (List.mem_erase_of_ne (fun (e : x = a) => hn.1 (by rw [← e]; exact hx))).2 (hs x (List.mem_cons_of_mem _ hx))
   rw [List.length_erase_of_mem ha] at this
   have hp := List.length_pos_of_mem ha
   simp only [List.length_cons]; omega
structure fL (vs : List aH) (v : ByteArray) (l : List ByteArray) (i k : Nat) : Prop where
 nd : l.Nodup
 first : v ∈ l
 from_ : ∀ x ∈ l, Srv vs v x
 uni : ∀ x ∈ l, x ∈ univ vs v
 done : ∀ (j : Nat) (x : ByteArray), l[j]? = some x → j < i → ∀ c ∈ gy vs x, c ∈ l
 now : ∀ x, l[i]? = some x → ∀ c ∈ (gy vs x).take k, c ∈ l
theorem fL.start (v : ByteArray) : fL vs v [v] 0 0 := ⟨by simp, by simp, fun x hx => by rw [List.mem_singleton.1 hx]; exact .refl, fun x hx => by rw [List.mem_singleton.1 hx]; exact List.mem_cons_self, fun j x _ hj => by omega, fun x _ c hc => by rw [List.take_zero] at hc; cases hc⟩
theorem fL.hit {v x p : ByteArray} {l : List ByteArray} {i k : Nat} (h : fL vs v l i k) (hx : l[i]? = some x) (hp : (gy vs x)[k]? = some p) (hh : p ∈ l) : fL vs v l i (k + 1) :=
 ⟨h.nd, h.first, h.from_, h.uni, h.done, fun y hy c hc => by
     obtain rfl : x = y := Option.some.inj (hx.symm.trans hy)
     rw [List.take_add_one, hp, List.mem_append] at hc
     rcases hc with hc | hc
     · exact h.now _ hx c hc
     · simp at hc; subst hc; exact hh⟩
theorem fL.add {v x p : ByteArray} {l : List ByteArray} {i k : Nat} (h : fL vs v l i k) (hx : l[i]? = some x) (hp : (gy vs x)[k]? = some p) (hh : p ∉ l) : fL vs v (l ++ [p]) i (k + 1) where
 nd := by rw [List.nodup_append]; exact ⟨h.nd, by simp, fun a ha b hb e => by rw [List.mem_singleton.1 hb] at e; exact hh (e ▸ ha)⟩
 first := List.mem_append_left _ h.first
 from_ y hy := by
   rcases List.mem_append.1 hy with hy | hy
   · exact h.from_ y hy
   · rw [List.mem_singleton.1 hy]; exact .step (h.from_ x (List.mem_of_getElem? hx)) (List.mem_of_getElem? hp)
 uni y hy := by
   rcases List.mem_append.1 hy with hy | hy
   · exact h.uni y hy
   · rw [List.mem_singleton.1 hy]; exact qv (List.mem_of_getElem? hp)
 done j y hy hj c hc := by
   have hi := (List.getElem?_eq_some_iff.1 hx).1
   rw [List.getElem?_append_left (by omega)] at hy
   exact List.mem_append_left _ (h.done j y hy hj c hc)
 now y hy c hc := by
   have hi := (List.getElem?_eq_some_iff.1 hx).1
   rw [List.getElem?_append_left hi] at hy
   obtain rfl : x = y := Option.some.inj (hx.symm.trans hy)
   rw [List.take_add_one, hp, List.mem_append] at hc
   rcases hc with hc | hc
   · exact List.mem_append_left _ (h.now _ hx c hc)
   · simp at hc; subst hc; simp
theorem fL.next {v x : ByteArray} {l : List ByteArray} {i k : Nat} (h : fL vs v l i k) (hx : l[i]? = some x) (hk : (gy vs x).length ≤ k) : fL vs v l (i + 1) 0 :=
 ⟨h.nd, h.first, h.from_, h.uni, fun j y hy hj c hc => by
     by_cases hji : j = i
     · subst hji
       obtain rfl : x = y := Option.some.inj (hx.symm.trans hy)
       exact h.now _ hx c (by rw [List.take_of_length_le hk]; exact hc)
     · exact h.done j y hy (by omega) c hc,
   fun y _ c hc => by rw [List.take_zero] at hc; cases hc⟩
theorem fL.fin {v : ByteArray} {l : List ByteArray} {i k : Nat} (h : fL vs v l i k) (hi : l.length ≤ i) (x : ByteArray) : x ∈ l ↔ Srv vs v x := by
 refine ⟨h.from_ x, fun hx => ?_⟩
 induction hx with
 | refl => exact h.first
 | step _ hc ih =>
   obtain ⟨j, hj⟩ := List.mem_iff_getElem?.1 ih
   exact h.done j _ hj (by have := (List.getElem?_eq_some_iff.1 hj).1; omega) _ hc
theorem fL.le {v : ByteArray} {l : List ByteArray} {i k : Nat} (h : fL vs v l i k) : l.length ≤ (univ vs v).length := by
 exact ou _ _ h.nd h.uni
end
end Go.Proofs.YtgmiihmahaahiaaGreatDoor

namespace Go.Proofs.YtgmiihmahaahiaaGreatDoor
open Go.RowKit Go.Lp Go.Sy
open Go.Proofs.Tryz
attribute [local irreducible] aL aB awp aC fwp
abbrev lQ (vs : List aH) : ByteArray → Option Int := fun s => (ga vs s).map fun i : Nat => (i : Int)
theorem ny (l : List aH) (d : aH) (s : ByteArray) : ga (l ++ [d]) s = (ga l s).or (if d.name = s then some l.length else none) := by
 unfold ga
 rw [List.findIdx?_append]
 congr 1
 by_cases h : d.name = s <;> simp [h, List.findIdx?_cons]
theorem sH (l : Sl aH) : Con Tryz.prog 101 [l.val] [ShF aH.row l] [] fun r ps hp => ps = [] ∧ ∃ b, r = .map (some b) ∧ hp = [dg b dK eI (lQ l.l)] := by
 refine Con.enter Tryz.func101 rfl (by simp [Tryz.ntmps101]) ?_
 show awp _ _ _ _ ⟨[(0, true, _)], _, _⟩
 refine bd (.of (an 0 rfl)) (fun hlen => ?_)
 refine aSR (aA rfl (aNn (aSR ?_)))
 refine aj (q := true) rfl (dY (dK) (eI) rfl (fun b1_0 => ?_))
 refine aHN ?_
 refine aA rfl (aNs (aSR (aM rfl (aU rfl (aZ Tryz.underlying24 rfl) ?_))))
 refine aM rfl (aNn (aw (aP [3, 9, 10, 11] [0] [0] (fun (k : Nat) s => k ≤ l.l.length ∧ s = ⟨[(3, true, .map (some b1_0)), (9, true, l.val), (10, true, .int .i64 l.l.length), (11, true, .int .i64 k)], [ShF aH.row l], [dg b1_0 dK eI (lQ (l.l.take k))]⟩) (fun k => l.l.length - k) rfl (⟨0, Nat.zero_le _, rfl⟩) ?_)))
 rintro k s ⟨hk, rfl⟩
 refine aSR (aU rfl (bt rfl rfl) (aNs ?_))
 refine ah _ rfl (fun h1 => ?_) (fun h1 => ?_)
 ·skip
  have hk' : k < l.l.length := by simpa using h1
  obtain ⟨a, ha⟩ : ∃ a, l.l[k]? = some a := ⟨l.l[k]'hk', by simp⟩
  have hlt : (l.l.take k).length = k := by rw [List.length_take]; omega
  refine au (av (az (aw (aSR (aM rfl ?_)))))
  refine ck true rfl rfl (fun _ => ai Tryz.underlying24 tk178 rfl ((.of (an 0 rfl))) rfl (aJ ha) rfl rfl) (fun h => absurd h (by decide)) (fun ⟨b4_1, o4_1⟩ => ?_)
  refine aU rfl (aF (o := 0) tk178 rfl (an 0 rfl) rfl rfl) ?_
  refine aj (q := true) rfl (bp (zs := [.string .empty, .slice none 0 0]) (by kernel_rfl) rfl (fun b4_3 => ?_))
  refine aHN ?_
  refine aA rfl ?_
  refine aj rfl (aT 1 tk178 rfl rfl rfl rfl ?_)
  refine aHK ?_
  refine aNn (aSR (aM rfl ?_))
  refine aU rfl (qFA (off := 0) rfl) ?_
  refine aU rfl (ab 1 tk9 rfl rfl rfl) ?_
  refine aU rfl (qL (k := a.name) (v0 := (0 : Int)) 0 Tryz.underlying173 (kyT) (by kernel_rfl) rfl rfl rfl) ?_
  refine aM rfl (aU rfl (bc rfl rfl) (aU rfl (bc rfl rfl) (aA rfl (aA rfl (aNn (aSR (aM rfl (aU rfl (bT rfl) (aNn ?_)))))))))
  refine ah _ rfl (fun h2 => ?_) (fun h2 => ?_)
  ·skip
   have hno : ga (l.l.take k) a.name = none := by simpa using h2
   have hm : cC (lQ (l.l.take k)) a.name (k : Int) = lQ (l.l.take (k + 1)) := by
     funext s
     unfold lQ cC
     rw [List.take_add_one, ha, Option.toList_some, ny, hlt]
     by_cases hs : s = a.name
     · subst hs; rw [if_pos rfl, hno, if_pos rfl]; rfl
     · rw [if_neg hs, if_neg (Ne.symm hs), Option.or_none]
   refine ae (aM rfl ?_)
   refine aU rfl (qFA (off := 0) rfl) ?_
   refine aU rfl (ab 1 tk9 rfl rfl rfl) (aM rfl ?_)
   refine aj rfl (cY (k := a.name) (v := (k : Int)) 0 Tryz.underlying173 (kyT) rfl rfl rfl rfl ?_)
   refine aHK ?_
   refine cr (bu (av (ae ?_)))
   refine aU rfl (bf rfl rfl (by omega)) ?_
   refine aM rfl (aNn ?_)
   refine ⟨[3, 9, 10, 11], [0], [0], rfl, ?_⟩
   exact ⟨k + 1, ⟨by omega, by rw [← hm]; rfl⟩, by omega⟩
  ·skip
   have hyes : (ga (l.l.take k) a.name).isSome = true := by simpa using h2
   have hm : lQ (l.l.take k) = lQ (l.l.take (k + 1)) := by
     funext s
     unfold lQ
     rw [List.take_add_one, ha, Option.toList_some, ny]
     by_cases hs : a.name = s
     · subst hs
       obtain ⟨i, hi⟩ := Option.isSome_iff_exists.1 hyes
       rw [hi]; rfl
     · rw [if_neg hs, Option.or_none]
   refine au (bu (av (ae ?_)))
   refine aU rfl (bf rfl rfl (by omega)) ?_
   refine aM rfl (aNn ?_)
   refine ⟨[3, 9, 10, 11], [0], [0], rfl, ?_⟩
   exact ⟨k + 1, ⟨by omega, by rw [← hm]; rfl⟩, by omega⟩
 ·skip
  refine aR (aS (aS (aY (av (aSR (aM rfl (aA rfl (aNn (aq ?_)))))))))
  refine aV [] [0] rfl Tryz.results101 rfl ?_ (.inr rfl)
  exact ⟨rfl, b1_0, rfl, by rw [List.take_of_length_le (by simpa using h1)]; rfl⟩
theorem tk175 : tyk Tryz.prog 175 = some (false, 1) := by kernel_rfl
abbrev yK (l : Sl aH) (bo ba bl bv bout bat : Nat) : List Per :=
 [At bo 0 [.v (.map (some bout))], At ba 0 [.v (.map (some bat))], At bl 0 [.v (slV l)], At bv 0 [.v (.func (.func 102) #[] #[.pointer (some ⟨bo, 0, none⟩), .pointer (some ⟨ba, 0, none⟩), .pointer (some ⟨bl, 0, none⟩), .pointer (some ⟨bv, 0, none⟩)])], ShM bat dK eI (lQ l.l), ShF aH.row l, bP aH.ok l.l]
abbrev sw (l : Sl aH) (bo ba bl bv bout bat : Nat) (s : ByteArray) (m : List ByteArray) : Prop :=
 Con Tryz.prog 102 [.string s, .pointer (some ⟨bo, 0, none⟩), .pointer (some ⟨ba, 0, none⟩), .pointer (some ⟨bl, 0, none⟩), .pointer (some ⟨bv, 0, none⟩)] (yK l bo ba bl bv bout bat) [dg bout dK vBo (k4 m)]
   fun _ ps hp => ps = [] ∧ ∃ m2, Vis l.l s m m2 ∧ hp = [dg bout dK vBo (k4 m2)]
theorem rP (l : Sl aH) (v : ByteArray) (bo ba bl bv bout bat : Nat) (s : ByteArray) (m : List ByteArray) (hs : s ∈ univ l.l v) (ih : ∀ s' m', left (univ l.l v) m' < left (univ l.l v) m → s' ∈ univ l.l v → sw l bo ba bl bv bout bat s' m') : sw l bo ba bl bv bout bat s m := by
 refine Con.enter Tryz.func102 rfl (by simp [Tryz.ntmps102]) ?_
 show awp _ _ _ _ ⟨[(0, true, _), (1, true, _), (2, true, _), (3, true, _), (4, true, _)], _, _⟩
 refine az (aSR (aU rfl (aN (o := 0) tk125 rfl (.of (an 0 rfl)) rfl) (aM rfl ?_)))
 refine aU rfl (gk (k := s) (v0 := false) 0 Tryz.underlying125 (kyT) (by kernel_rfl) rfl rfl rfl) ?_
 refine aNn ?_
 refine ah _ rfl (fun h1 => ?_) (fun h1 => ?_)
 ·skip
  have hin : s ∈ m := by have h1' : ((k4 m s).getD false) = true := h1; rw [my] at h1'; simpa using h1'
  refine aq (aK ?_)
  refine iL [] [0] rfl Tryz.results102 ?_ (.inr rfl)
  exact ⟨rfl, m, .hit hin, rfl⟩
 ·skip
  have hin : s ∉ m := by have h1' : ((k4 m s).getD false) = false := h1; rw [my] at h1'; simpa using h1'
  have hlt := yx hs hin
  refine au (av (aSR (aU rfl (aN (o := 0) tk125 rfl (.of (an 0 rfl)) rfl) (aM rfl ?_))))
  refine aj rfl (cY (k := s) (v := true) 0 Tryz.underlying125 (kyT) rfl rfl rfl rfl ?_)
  refine aHK ?_
  refine aNs ?_
  rw [← wQ]
  refine ae (aU rfl (aN (o := 0) tk173 rfl (.of (an 1 rfl)) rfl) (aM rfl ?_))
  refine aU rfl (j0 (k := s) (v0 := (0 : Int)) Tryz.underlying173 (kyT) (by kernel_rfl) rfl rfl ((.of (an 4 rfl)))) ?_
  refine aM rfl (aU rfl (bc rfl rfl) (aU rfl (bc rfl rfl) (aA rfl (aA rfl (aNn (aSR (aM rfl (aNn ?_))))))))
  refine ah _ rfl (fun h2 => ?_) (fun h2 => ?_)
  ·skip
   obtain ⟨i, hi⟩ : ∃ i, ga l.l s = some i := by
     cases hc : ga l.l s with
     | some i => exact ⟨i, rfl⟩
     | none => simp [hc] at h2
   have hz : ((ga l.l s).map fun i : Nat => (i : Int)).getD 0 = i := by rw [hi]; rfl
   have hil : i < l.l.length := by unfold ga at hi; rw [List.findIdx?_eq_some_iff_getElem] at hi; exact hi.1
   have hpar : gy l.l s = (elt l.l (i : Int)).parents.l := by unfold gy; rw [hi]
   refine aSR (aU rfl (aN (o := 0) tk24 rfl (.of (an 2 rfl)) rfl) (aM rfl ?_))
   refine ck true rfl rfl (fun _ => ai Tryz.underlying24 tk178 rfl ((.of (an 5 rfl))) rfl (aJ (bN hil)) (hz) rfl) (fun h => absurd h (by decide)) (fun ⟨b4_2, o4_2⟩ => ?_)
   refine aU rfl (qFA (off := 1) rfl) ?_
   refine aU rfl (aF (o := 1) tk77 rfl (an 0 rfl) rfl rfl) (aU rfl (aZ Tryz.underlying77 rfl) (aM rfl (aNn (aw ?_))))
   refine bd (aH.f_parents (Ent.all (f := aH.ok) (.of (an 7 rfl)) (bN hil))) (fun hlen => ?_)
   refine aP [1, 2, 3, 4, 26, 27, 28] [6, 5, 4, 3, 2, 1, 0] [0] (fun (q : Nat × List ByteArray) st => (q.1 ≤ (elt l.l (i : Int)).parents.l.length ∧ px l.l s m q.2 q.1) ∧ st = ⟨[(1, true, .pointer (some ⟨bo, 0, none⟩)), (2, true, .pointer (some ⟨ba, 0, none⟩)), (3, true, .pointer (some ⟨bl, 0, none⟩)), (4, true, .pointer (some ⟨bv, 0, none⟩)), (26, true, (elt l.l (i : Int)).parents.val), (27, true, .int .i64 (elt l.l (i : Int)).parents.l.length), (28, true, .int .i64 q.1)], yK l bo ba bl bv bout bat, [dg bout dK vBo (k4 q.2)]⟩) (fun q => (elt l.l (i : Int)).parents.l.length - q.1) rfl (⟨(0, m ++ [s]), ⟨Nat.zero_le _, .start⟩, rfl⟩) ?_
   rintro ⟨k, m2⟩ st ⟨⟨hk, hV⟩, rfl⟩
   dsimp only at hk hV
   refine aSR (aU rfl (bt rfl rfl) (aNs ?_))
   refine ah _ rfl (fun h3 => ?_) (fun h3 => ?_)
   ·skip
    have hk' : k < (elt l.l (i : Int)).parents.l.length := by simp at h3; omega
    obtain ⟨p, hp⟩ : ∃ p, (elt l.l (i : Int)).parents.l[k]? = some p := ⟨_, List.getElem?_eq_getElem hk'⟩
    have hp2 : (gy l.l s)[k]? = some p := by rw [hpar]; exact hp
    refine au (av (az (aw (aSR ?_))))
    refine ck true rfl rfl (fun _ => ai Tryz.underlying77 tk9 rfl ((aH.f_parents (Ent.all (f := aH.ok) (.of (an 6 rfl)) (bN hil)))) rfl (aJ hp) rfl rfl) (fun h => absurd h (by decide)) (fun ⟨b6_0, o6_0⟩ => ?_)
    refine aU rfl (aF (o := 0) tk9 rfl (an 0 rfl) rfl rfl) (aA rfl (aNn (ae (aU rfl (aN (o := 0) tk175 rfl (.of (an 4 rfl)) rfl) (aM rfl ?_)))))
    refine aj (q := false) rfl (i7 [6, 5, 4, 3, 2, 1, 0] [0] (by kernel_rfl) rfl rfl rfl rfl rfl (ih p m2 (Nat.lt_of_le_of_lt (tn fun x hx => hV.sub x hx) hlt) (qv (List.mem_of_getElem? hp2))) ?_)
    rintro _ _ _ ⟨rfl, m3, hv3, rfl⟩
    refine aST ?_
    refine cr (bu (av (ae ?_)))
    refine aU rfl (bf rfl rfl (by omega)) ?_
    refine aM rfl (aNn ?_)
    refine ⟨[1, 2, 3, 4, 26, 27, 28], [6, 5, 4, 3, 2, 1, 0], [0], rfl, ?_⟩
    exact ⟨(k + 1, m3), ⟨⟨by dsimp only; omega, hV.step hp2 hv3⟩, rfl⟩, by dsimp only; omega⟩
   ·skip
    refine aR (aS (aS (aY ?_)))
    refine iL [] [0] rfl Tryz.results102 ?_ (.inl rfl)
    exact ⟨rfl, m2, hV.fin (by rw [hpar]; simp at h3; omega), rfl⟩
  ·skip
   have hpar : gy l.l s = [] := by
     unfold gy
     cases hc : ga l.l s with
     | none => rfl
     | some i => simp [hc] at h2
   refine au ?_
   refine iL [] [0] rfl Tryz.results102 ?_ (.inl rfl)
   exact ⟨rfl, m ++ [s], px.start.fin (by rw [hpar]; exact Nat.le_refl _), rfl⟩
theorem ng (l : Sl aH) (v : ByteArray) (bo ba bl bv bout bat : Nat) : ∀ (N : Nat) (s : ByteArray) (m : List ByteArray), left (univ l.l v) m < N → s ∈ univ l.l v → sw l bo ba bl bv bout bat s m
 | 0, _, _, h, _ => by omega
 | N + 1, s, m, h, hs => rP l v bo ba bl bv bout bat s m hs fun s' m' h' hs' => ng l v bo ba bl bv bout bat N s' m' (by omega) hs'
theorem rC (l : Sl aH) (v : ByteArray) : Con Tryz.prog 47 [l.val, .string v] [ShF aH.row l, bP aH.ok l.l] [] fun r ps hp => ps = [] ∧ ∃ b m, r = .map (some b) ∧ (∀ x, x ∈ m ↔ Srv l.l v x) ∧ hp = [dg b dK vBo (k4 m)] := by
 refine Con.enter Tryz.func47 rfl (by simp [Tryz.ntmps47]) ?_
 show awp _ _ _ _ ⟨[(0, true, _), (1, true, _)], _, _⟩
 refine aSR ?_
 refine aj (q := true) rfl (zq ([slV l]) rfl rfl rfl (fun b0_0 => ?_))
 refine aHN ?_
 refine aA rfl (aNn (aSR (aU rfl (ab 0 tk24 rfl rfl rfl) ?_)))
 refine aj (q := true) rfl (bF [1] [] (by kernel_rfl) rfl rfl rfl rfl (sH l) ?_)
 rintro _ _ _ ⟨rfl, bat, rfl, rfl⟩
 refine aST ?_
 refine aj (q := true) rfl (bp (zs := [.map none]) (by kernel_rfl) rfl (fun b1_2 => ?_))
 refine aHN ?_
 refine aj rfl (aT 2 tk173 rfl rfl rfl rfl ?_)
 refine aHK ?_
 refine aNn (aSR ?_)
 refine aj (q := true) rfl (dY (dK) (vBo) rfl (fun b2_0 => ?_))
 refine aHN ?_
 refine aj (q := true) rfl (bp (zs := [.map none]) (by kernel_rfl) rfl (fun b2_1 => ?_))
 refine aHN ?_
 refine aj rfl (aT 4 tk125 rfl rfl rfl rfl ?_)
 refine aHK ?_
 refine aNn (aSR ?_)
 refine aj (q := true) rfl (bp (zs := [.nilFunc]) (by kernel_rfl) rfl (fun b3_0 => ?_))
 refine aHN ?_
 refine aNn (aSR (aU rfl (dq (l := [.tmp 6, .tmp 5, .tmp 2, .tmp 7]) rfl) ?_))
 refine aj rfl (aT 5 tk175 rfl rfl rfl rfl ?_)
 refine aHK ?_
 refine aNs (fE 1 (ShM bat dK eI (lQ l.l)) rfl (fun _ _ _ hh => tm hh) (bL 5 rfl rfl (bL 0 rfl rfl (bL 2 rfl rfl (bL 4 rfl rfl ?_)))))
 show awp _ _ _ _ ⟨_, At b2_1 0 [.v (.map (some b2_0))] :: At b1_2 0 [.v (.map (some bat))] :: At b0_0 0 [.v (slV l)] :: At b3_0 0 [.v (.func (.func 102) #[] #[.pointer (some ⟨b2_1, 0, none⟩), .pointer (some ⟨b1_2, 0, none⟩), .pointer (some ⟨b0_0, 0, none⟩), .pointer (some ⟨b3_0, 0, none⟩)])] :: ShM bat dK eI (lQ l.l) :: _ :: _ :: [], _⟩
 refine ae (aU rfl (aN (o := 0) tk175 rfl (.of (an 3 rfl)) rfl) (aM rfl ?_))
 refine aj (q := false) rfl (i7 [6, 5, 4, 3, 2, 1, 0] [3] (by kernel_rfl) rfl rfl rfl rfl rfl (ng l v b2_1 b1_2 b0_0 b3_0 b2_0 bat _ v [] (Nat.lt_succ_self _) List.mem_cons_self) ?_)
 rintro _ _ _ ⟨rfl, m2, hv, rfl⟩
 refine aST ?_
 refine aNn (aSR (aU rfl (aN (o := 0) tk125 rfl (.of (an 0 rfl)) rfl) (aA rfl (aNn (aq ?_)))))
 refine aV [] [3] rfl Tryz.results47 rfl ?_ (.inr rfl)
 exact ⟨rfl, b2_0, m2, rfl, hv.all, rfl⟩
theorem mR (l : Sl aH) (a : ByteArray) : Con Tryz.prog 22 [l.val, .string a, .string a] [ShF aH.row l, bP aH.ok l.l] [] fun r _ _ => r = .bool true := by
 refine Con.enter Tryz.func22 rfl (by simp [Tryz.ntmps22]) ?_
 show awp _ _ _ _ ⟨[(0, true, _), (1, true, _), (2, true, _)], _, _⟩
 refine aSR (aA rfl (aNn (aSR (aM rfl (aM rfl ?_)))))
 refine aU rfl ((cZ rfl rfl).castV (v' := .bool true) (by rw [decide_eq_true rfl])) ?_
 refine aM rfl (aG rfl rfl (fun hc => ar rfl) (aG rfl rfl (fun hc => ar rfl) ?_))
 refine aQ (caps := []) [1, 0] (none) (by kernel_rfl) _ rfl rfl (fun _ => rfl) (fun hc => (aI (aa rfl hc) (aI (aa rfl hc) rfl))) (fun hc => by rw [List.append_nil]; exact (absurd hc (by decide) : Con _ _ _ _ _ (YN (fun m : Option Nat => Value.map m) fun _ => True))) (fun m6 hm6 => ?_)
 refine aG rfl rfl (fun hc => ar rfl) ?_
 refine aG rfl rfl (fun hc => (absurd hc (by decide) : Quiet _ _ _ _ (.bool false))) ?_
 refine aU rfl (ct rfl rfl (fun h => gf rfl h)) (aA rfl (aNn (aq ?_)))
 refine aV [] [] rfl Tryz.results22 rfl ?_ (.inr rfl)
 rfl
theorem mW (l : Sl aH) (a b : ByteArray) (hab : a ≠ b) (SV : ByteArray → ByteArray → Bool) (hSV : ∀ x y, SV x y = true ↔ Srv l.l x y) : Con Tryz.prog 22 [l.val, .string a, .string b] [ShF aH.row l, bP aH.ok l.l] [] fun r _ _ => r = .bool (SV a b) := by
 refine Con.enter Tryz.func22 rfl (by simp [Tryz.ntmps22]) ?_
 show awp _ _ _ _ ⟨[(0, true, _), (1, true, _), (2, true, _)], _, _⟩
 refine aSR (aA rfl (aNn (aSR (aM rfl (aM rfl ?_)))))
 refine aU rfl ((cZ rfl rfl).castV (v' := .bool false) (by rw [decide_eq_false hab])) ?_
 refine aM rfl (aM rfl (aM rfl ?_))
 refine aj (q := true) rfl (bF [1, 0] [] (by kernel_rfl) rfl rfl rfl rfl (rC l a) ?_)
 rintro _ _ _ ⟨rfl, bm, m, rfl, hm, rfl⟩
 refine aST ?_
 refine aM rfl ?_
 refine aU rfl ((gk (k := b) (v0 := false) 0 Tryz.underlying125 (kyT) (by kernel_rfl) rfl rfl rfl).castV (v' := .bool (SV a b)) (by (show Value.bool ((k4 m b).getD false) = _); rw [my]; congr 1; rw [Bool.eq_iff_iff, hSV, ← hm]; simp)) ?_
 refine aU rfl (ct rfl rfl (fun _ => rfl)) (aA rfl (aNn (aq ?_)))
 refine aV [] [] rfl Tryz.results22 rfl ?_ (.inr rfl)
 rfl
theorem mx (l : Sl aH) (a b : ByteArray) (SV : ByteArray → ByteArray → Bool) (hSV : ∀ x y, SV x y = true ↔ Srv l.l x y) : Con Tryz.prog 22 [l.val, .string a, .string b] [ShF aH.row l, bP aH.ok l.l] [] fun r _ _ => r = .bool (SV a b) := by
 by_cases hab : a = b
 · subst hab
   rw [show SV a a = true from (hSV a a).2 .refl]
   exact mR l a
 · exact mW l a b hab SV hSV
end Go.Proofs.YtgmiihmahaahiaaGreatDoor

namespace Go.Sy
open Go.RowKit Go.Lp Go.Sort Go.Proofs
section
variable {α : Type} [Inhabited α] {enc : α → List Value} {k : Nat}
omit [Inhabited α] in
theorem gw (hk : ∀ x, (enc x).length = k) : ∀ zs : List α, (zs.flatMap enc).length = zs.length * k
 | [] => by simp
 | x :: zs => by rw [List.flatMap_cons, List.length_append, gw hk zs, hk, List.length_cons, Nat.add_mul, Nat.one_mul]; omega
omit [Inhabited α] in
theorem flat_get (hk : ∀ x, (enc x).length = k) : ∀ (zs : List α) (i j : Nat) (x : α), zs[i]? = some x → j < k → (zs.flatMap enc)[i * k + j]? = (enc x)[j]?
 | [], i, j, x, h, _ => by simp at h
 | y :: zs, 0, j, x, h, hj => by
   simp only [List.getElem?_cons_zero, Option.some.injEq] at h
   subst h
   rw [List.flatMap_cons, Nat.zero_mul, Nat.zero_add, List.getElem?_append_left (by rw [hk]; exact hj)]
 | y :: zs, i + 1, j, x, h, hj => by
   rw [List.getElem?_cons_succ] at h
   rw [List.flatMap_cons, List.getElem?_append_right (by rw [hk, Nat.add_mul]; omega), hk, show (i + 1) * k + j - k = i * k + j by rw [Nat.add_mul]; omega]
   exact flat_get hk zs i j x h hj
theorem mE (hk : ∀ x, (enc x).length = k) (d : Array α) : flatK enc k d = (d.toList.flatMap enc).toArray := by
 apply Array.ext'
 apply List.ext_getElem?
 intro t
 show (flatK enc k d).toList[t]? = (d.toList.flatMap enc)[t]?
 by_cases ht : t < d.size * k
 · have k0 : 0 < k := by rcases Nat.eq_zero_or_pos k with h | h
                         · subst h; simp at ht
                         · exact h
   have hd : t / k < d.size := (Nat.div_lt_iff_lt_mul k0).2 ht
   have h1 := flat_get hk d.toList (t / k) (t % k) d[t / k]! (by simp [hd]) (Nat.mod_lt _ k0)
   rw [show t / k * k + t % k = t by rw [Nat.mul_comm]; exact Nat.div_add_mod t k] at h1
   rw [h1, Array.getElem?_toList]
   have h2 := get_flatK enc k d t ht
   have h3 : t % k < (enc d[t / k]!).length := by rw [hk]; exact Nat.mod_lt _ k0
   rw [List.getElem?_eq_getElem h3]
   have hs : t < (flatK enc k d).size := by rw [size_flatK]; exact ht
   rw [Array.getElem?_eq_getElem hs]
   rw [getElem!_pos _ t hs] at h2
   rw [h2, getElem!_pos (enc d[t / k]!) (t % k) h3]
 · rw [List.getElem?_eq_none (by simpa using ht), List.getElem?_eq_none (by rw [gw hk]; simpa using ht)]
abbrev qw (enc : α → List Value) (l : List α) : List (List D) := l.map fun x => (enc x).map D.v
theorem xk (hk : ∀ x, (enc x).length = k) (k0 : 0 < k) {w : World} {S F : bz} {v : Value} {T : TypeId} {zs : List α} (h : (bA v T k (qw enc zs)).holds w S F) :
   (v = .slice none 0 0 ∧ zs = []) ∨ ∃ b cap sp, v = .slice (some ⟨b, 0, none⟩) zs.length cap ∧ w.heap[b]? = some (.cells (zs.flatMap enc ++ sp).toArray T (0, 0)) ∧ zs.length * k + sp.length = cap * k ∧ zs.length ≤ cap ∧ cap ≤ maxLen ∧ (∀ j, F j ↔ j = b) ∧ HoldsK enc k w b 0 zs.toArray := by
 rcases h with ⟨h1, h2, _⟩ | ⟨b, cap, hv, ⟨cs, sp, hb, hr, hl, hle, hc⟩, hF⟩
 · left; exact ⟨h1, by simpa using h2⟩
 · right
   have hlen := hr.len
   rw [List.length_map] at hlen
   have hcs : cs = zs.flatMap enc := by
     apply List.ext_getElem?
     intro t
     by_cases ht : t < zs.length * k
     · have hd : t / k < zs.length := (Nat.div_lt_iff_lt_mul k0).2 ht
       have hj := Nat.mod_lt t k0
       have hx : zs[t / k]? = some (zs[t / k]'hd) := List.getElem?_eq_getElem hd
       have h1 := flat_get hk zs (t / k) (t % k) _ hx hj
       have h3 : t % k < (enc (zs[t / k]'hd)).length := by rw [hk]; exact hj
       obtain ⟨u, hu, hrep⟩ := hr.rep (t / k) (t % k) ((enc (zs[t / k]'hd)).map D.v) (.v ((enc (zs[t / k]'hd))[t % k]'h3)) (by rw [List.getElem?_map, hx]; rfl) (by rw [List.getElem?_map, List.getElem?_eq_getElem h3]; rfl)
       rw [show t / k * k + t % k = t by rw [Nat.mul_comm]; exact Nat.div_add_mod t k] at h1 hu
       cases hrep
       rw [hu, h1, List.getElem?_eq_getElem h3]
     · rw [List.getElem?_eq_none (by omega), List.getElem?_eq_none (by rw [gw hk]; omega)]
   subst hcs
   refine ⟨b, cap, sp, by rw [hv, List.length_map], hb, by rw [← hl, List.length_append, gw hk], by rwa [List.length_map] at hle, hc, hF, fun j hj => ?_⟩
   rw [mE hk] at hj ⊢
   have hj' : j < (zs.flatMap enc).length := by simpa using hj
   refine ⟨?_, ?_⟩
   · rw [Nat.zero_add, dM hb, List.getElem?_append_left hj', List.getElem?_eq_getElem hj']
     congr 1
     show _ = (zs.flatMap enc).toArray[j]!
     rw [getElem!_pos (zs.flatMap enc).toArray j (by simpa using hj')]; simp
   · unfold World.frozen?
     rw [hb]
     simp
theorem nS {P : Program} {ρ : Go.Shelf.Ren} (L : SlLaysF0.n6 P ρ) (k0 : 0 < k) (aE : ∀ w, (isAgg (ρ.t 24)).run P w = .ok true w) (zE : ∀ w, (Go.sizeOf (ρ.t 24)).run P w = .ok k w) (hk : ∀ x, (enc x).length = k) (h1 : ∀ x, ∀ v ∈ enc x, v.oneCell' = true)
   (cf : α → α → Int) (hO : SWO (ltOf cf)) (g : FuncId) (hg : bE P g = true) (hcmp : ∀ x y, Con P g [.agg (enc x).toArray, .agg (enc y).toArray] [] [] fun r _ _ => r = .int .i64 (cf x y)) {T : TypeId} {v : Value} (zs : List α) (hz : zs.length < 4611686018427387904) :
   Con P (ρ.f 6) [v, .func (.func g) #[] #[]] [] [bA v T k (qw enc zs)] fun _ ps' hp' => ps' = [] ∧ ∃ q : List α, q.Perm zs ∧ (q.Pairwise fun a b => ¬ cf b a < 0) ∧ hp' = [bA v T k (qw enc q)] := fun w S fp hst => by
 have hr := hst.res 0 _ rfl
 rcases xk hk k0 hr with ⟨e1, e2⟩ | ⟨b, cap, sp, hv, hb, hl, hle, hc, hF, hH⟩
 · subst e1 e2
   refine (AnyF.slices_SortFunc_none L none 0 (.func (.func g) #[] #[]) w).mono fun e w' ⟨he, hw⟩ => ?_
   have hbl : Go.Sy.Below w.heap.size w w' := by rw [hw]; exact .refl _ _
   exact ⟨_, [], _, S, fp, he, ⟨rfl, [], List.Perm.refl _, List.Pairwise.nil, rfl⟩, ⟨(fun p hp => by cases hp), (hst.below hbl).res, (hst.below hbl).lt, hst.dj, (hst.below hbl).slt⟩, Evo.of_below _ _ hbl, fun b hb => .inl hb⟩
 · have hbl := lt_of_heap hb
   have eg : ∀ args w, (callFunc g args).run P w = .ok (.enter g args) w := gX hg
   have hlays : CmpLays P g #[] enc k cf b 0 zs.toArray.size w := fun m os dk _ x y => by
     have hst0 : ∀ W : World, St W (fun _ => False) (fun _ _ => False) [] [] := fun W => ⟨fun p hp => (by cases hp), fun i R hi => (by simp at hi), fun i hi => (by simp at hi), fun i j hi => (by simp at hi), fun b hb => hb.elim⟩
     refine ((hcmp x y).quiet0 (hst0 (sortWorldK enc k w b 0 m dk os))).mono fun e w' ⟨he, hbw⟩ => ⟨he, ?_⟩
     obtain ⟨objs, d, rfl⟩ := jR hbw.kit
     have hd := hbw.drawn
     refine ⟨d - (sortWorldK enc k w b 0 m dk os).drawn, objs, ?_⟩
     unfold World.ext grow World.drewN
     have hd' : (sortWorldK enc k w b 0 m dk os).drawn ≤ d := hd
     simp only [World.mk.injEq, true_and, and_true]
     omega
   have hcall := AnyQ.slices_SortFunc L k aE zE enc hk h1 cf hO g #[] b 0 cap zs.toArray w eg hlays hH hbl (by simpa using hz)
   rw [show zs.toArray.size = zs.length by simp, ← hv] at hcall
   refine hcall.mono fun e w' ⟨he, d', n, os, hp, hs, hw⟩ => ?_
   obtain ⟨p1, _, p3⟩ := hp
   have hsz' : d'.toList.length = zs.length := by simpa using p1
   have hperm : d'.toList.Perm zs := by
     have e1 : (d'.extract 0 zs.length).toList = d'.toList := by
       rw [Array.toList_extract, List.extract_eq_take_drop, List.drop_zero, List.take_of_length_le (by omega)]
     have e2 : (zs.toArray.extract 0 zs.length).toList = zs := by simp
     rw [e1, e2] at p3; exact p3
   have hsort : d'.toList.Pairwise fun a b => ¬ cf b a < 0 := by
     rw [List.pairwise_iff_getElem]
     intro i j hi hj hij
     have hi' : i < d'.size := by simpa using hi
     have hj' : j < d'.size := by simpa using hj
     have := hs i j (Nat.zero_le _) hij (by omega)
     rw [getElem!_pos d' i hi', getElem!_pos d' j hj'] at this
     unfold ltOf at this
     simpa using this
   have hfl : (flatK enc k d') = (d'.toList.flatMap enc).toArray := mE hk d'
   have hlen' : (d'.toList.flatMap enc).length = zs.length * k := by rw [gw hk, hsz']
   have hb' : w'.heap[b]? = some (.cells (d'.toList.flatMap enc ++ sp).toArray T (0, 0)) := by
     rw [hw]
     show ((w.heap.modify b (onCells (putCells id 0 (flatK enc k d')))) ++ os)[b]? = _
     rw [Array.getElem?_append_left (by simpa using hbl), Array.getElem?_modify, if_pos rfl, hb, Option.map_some]
     show some (Obj.cells (putCells id 0 (flatK enc k d') (zs.flatMap enc ++ sp).toArray) T (0, 0)) = _
     rw [hfl, mU id (d'.toList.flatMap enc) (zs.flatMap enc) sp (by rw [hlen', gw hk]), List.map_id]
   have hoth : ∀ j, j < w.heap.size → j ≠ b → w'.heap[j]? = w.heap[j]? := fun j hj hne => by
     rw [hw]
     show ((w.heap.modify b (onCells (putCells id 0 (flatK enc k d')))) ++ os)[j]? = _
     rw [Array.getElem?_append_left (by simpa using hj), Array.getElem?_modify, if_neg (Ne.symm hne)]
   have hsz : w.heap.size ≤ w'.heap.size := by
     rw [hw]
     show _ ≤ ((w.heap.modify b (onCells (putCells id 0 (flatK enc k d')))) ++ os).size
     simp
   have hfb : fp 0 b := (hF b).2 rfl
   refine ⟨_, [], [bA v T k (qw enc d'.toList)], S, fp, he, ⟨rfl, d'.toList, hperm, hsort, rfl⟩, ⟨(fun p hp => by cases hp), fun i R' hi => ?_, fun i hi j hj => ?_, hst.dj, fun j hj => Nat.lt_of_lt_of_le (hst.slt j hj) hsz⟩, ⟨by rw [hw]; rfl, by rw [hw]; rfl, by rw [hw]; rfl, hsz, by rw [hw]; exact Nat.le_add_right _ _, fun j hj hx => hoth j hj fun e => hx ⟨0, by simp, e ▸ hfb⟩, fun _ h => h, fun _ h => .inl h⟩, fun j hj => .inl hj⟩
   · cases i with
     | succ i => simp at hi
     | zero =>
       simp only [List.getElem?_cons_zero, Option.some.injEq] at hi
       subst hi
       refine .inr ⟨b, cap, by rw [List.length_map, hsz', hv], ⟨d'.toList.flatMap enc, sp, hb', ⟨by rw [List.length_map, gw hk], fun i r hi => ?_, fun u hu => ?_, fun i j r d g1 g2 => ?_⟩, by rw [List.length_append, hlen']; exact hl, by rw [List.length_map, hsz']; exact hle, hc⟩, hF⟩
       · rw [List.getElem?_map, Option.map_eq_some_iff] at hi
         obtain ⟨x, _, rfl⟩ := hi; rw [List.length_map, hk]
       · obtain ⟨x, _, hx⟩ := List.mem_flatMap.1 hu; exact h1 x u hx
       · rw [List.getElem?_map, Option.map_eq_some_iff] at g1
         obtain ⟨x, hx, rfl⟩ := g1
         rw [List.getElem?_map, Option.map_eq_some_iff] at g2
         obtain ⟨u, hu, rfl⟩ := g2
         have hj : j < k := by rw [← hk x]; exact (List.getElem?_eq_some_iff.1 hu).1
         exact ⟨u, by rw [flat_get hk _ i j x hx hj]; exact hu, .v u⟩
   · have hi' : i < [bA v T k (qw enc zs)].length := by simpa using hi
     exact ⟨Nat.lt_of_lt_of_le (hst.lt i hi' j hj).1 hsz, (hst.lt i hi' j hj).2⟩
end
def yU (P : Program) (T : TypeId) (i : Nat) : Option Nat := match P.underlying T with
 | some (.struct fs) => (match fs[i]? with
   | some f => if P.plainKey f.type = true then some f.offset else none
   | none => none)
 | _ => none
theorem ri {P : Program} {n : Fr} {s : Sta} {d : Option Tmp} {ty : TypeId} {pos : String} {af : Array Edge} {gd : Option (Nat × Bool)} {T : TypeId} {i off : Nat} {x : Operand} {xs : Array Value} {v : Value} (hf : yU P T i = some off) (hx : ev s.env x = some (true, .agg xs)) (hv : xs[off]? = some v) :
   Quiet P n ⟨d, .field T x i, ty, pos, af, gd⟩ s v := fun w S fp a hst he hn => by
 have h1 := he.val hx rfl
 unfold yU at hf
 cases hu : P.underlying T with
 | none => rw [hu] at hf; cases hf
 | some t =>
   rw [hu] at hf
   cases t with
   | struct fs =>
     dsimp only at hf
     cases hi : fs[i]? with
     | none => rw [hi] at hf; cases hf
     | some f =>
       rw [hi] at hf
       dsimp only at hf
       split at hf
       · rename_i hp
         obtain rfl := Option.some.inj hf
         have : (execOp a.eval ⟨d, .field T x i, ty, pos, af, gd⟩).run P w = .ok (.value v) w := by
           unfold execOp; dsimp only; rw [h1]
           show ((Instr.field T (.agg xs) i).bind fun r => Sem.pure (Next.value r)).run P w = _
           have h2 : (Instr.field T (.agg xs) i).run P w = .ok v w := by
             simp only [Instr.field, Sem.run_bind, run_underlying hu, Result.andThen, hi, asAgg, Sem.run_pure]
             exact run_part_plain w hp hv
           rw [Sem.run_bind', h2]; rfl
         rw [this]; exact bY _ _
       · cases hf
   | _ => cases hf
end Go.Sy

namespace Go.Proofs
open Go.Shelf
def Tryz.sortO_ren : Go.Shelf.Ren := ⟨fun | 6 => 42 | 15 => 98 | 14 => 97 | 28 => 206 | 29 => 207 | 20 => 198 | 21 => 199 | 22 => 200 | 23 => 201 | 24 => 202 | 25 => 203 | 26 => 204 | 27 => 205 | 46 => 261 | 47 => 262 | 48 => 263 | 49 => 264 | 50 => 265 | 57 => 289 | n => n, fun | 22 => 41 | 24 => 46 | 25 => 123 | 3 => 3 | 39 => 147 | 0 => 0 | 53 => 272 | 55 => 275 | 4 => 4 | 46 => 292 | 45 => 291 | 50 => 176 | 5 => 5 | 9 => 9 | 66 => 328 | 70 => 332 | 76 => 357 | 77 => 358 | n => n, fun | n => n⟩
theorem Tryz.sortO : Go.Proofs.SlLaysF0.n6 Tryz.prog Tryz.sortO_ren := {
 mixed := by kernel_rfl
 f6 := ⟨Tryz.f42.name, by decide, Tryz.func42.trans (congrArg some (by kernel_rfl))⟩
 f14 := ⟨Tryz.f97.name, by decide, Tryz.func97.trans (congrArg some (by kernel_rfl))⟩
 f15 := Tryz.func98.trans (congrArg some (by kernel_rfl))
 f20 := ⟨Tryz.f198.name, by decide, Tryz.func198.trans (congrArg some (by kernel_rfl))⟩
 f21 := ⟨Tryz.f199.name, by decide, Tryz.func199.trans (congrArg some (by kernel_rfl))⟩
 f22 := ⟨Tryz.f200.name, by decide, Tryz.func200.trans (congrArg some (by kernel_rfl))⟩
 f23 := ⟨Tryz.f201.name, by decide, Tryz.func201.trans (congrArg some (by kernel_rfl))⟩
 f24 := ⟨Tryz.f202.name, by decide, Tryz.func202.trans (congrArg some (by kernel_rfl))⟩
 f25 := ⟨Tryz.f203.name, by decide, Tryz.func203.trans (congrArg some (by kernel_rfl))⟩
 f26 := ⟨Tryz.f204.name, by decide, Tryz.func204.trans (congrArg some (by kernel_rfl))⟩
 f27 := ⟨Tryz.f205.name, by decide, Tryz.func205.trans (congrArg some (by kernel_rfl))⟩
 f28 := Tryz.func206.trans (congrArg some (by kernel_rfl))
 f29 := Tryz.func207.trans (congrArg some (by kernel_rfl))
 f46 := ⟨Tryz.f261.name, by decide, Tryz.func261.trans (congrArg some (by kernel_rfl))⟩
 f47 := Tryz.func262.trans (congrArg some (by kernel_rfl))
 f48 := Tryz.func263.trans (congrArg some (by kernel_rfl))
 f49 := ⟨Tryz.f264.name, by decide, Tryz.func264.trans (congrArg some (by kernel_rfl))⟩
 f50 := ⟨Tryz.f265.name, by decide, Tryz.func265.trans (congrArg some (by kernel_rfl))⟩
 f57 := ⟨Tryz.f289.name, by decide, Tryz.func289.trans (congrArg some (by kernel_rfl))⟩
 t0 := Tryz.underlying0
 a0 := Tryz.isAgg0
 z0 := Tryz.sizeOf0
 v0 := Tryz.zeroValue0
 t3 := Tryz.underlying3
 a3 := Tryz.isAgg3
 z3 := Tryz.sizeOf3
 v3 := Tryz.zeroValue3
 t4 := Tryz.underlying4
 a4 := Tryz.isAgg4
 z4 := Tryz.sizeOf4
 v4 := Tryz.zeroValue4
 t5 := Tryz.underlying5
 a5 := Tryz.isAgg5
 z5 := Tryz.sizeOf5
 v5 := Tryz.zeroValue5
 t9 := Tryz.underlying9
 a9 := Tryz.isAgg9
 z9 := Tryz.sizeOf9
 v9 := Tryz.zeroValue9
 t22 := Tryz.underlying41
 a22 := Tryz.isAgg41
 z22 := Tryz.sizeOf41
 v22 := Tryz.zeroValue41
 t25 := Tryz.underlying123
 a25 := Tryz.isAgg123
 z25 := Tryz.sizeOf123
 v25 := Tryz.zeroValue123
 t39 := Tryz.underlying147
 a39 := Tryz.isAgg147
 z39 := Tryz.sizeOf147
 v39 := Tryz.zeroValue147
 t45 := Tryz.underlying291
 a45 := Tryz.isAgg291
 z45 := Tryz.sizeOf291
 v45 := Tryz.zeroValue291
 t46 := Tryz.underlying292
 a46 := Tryz.isAgg292
 z46 := Tryz.sizeOf292
 v46 := Tryz.zeroValue292
 t50 := Tryz.underlying176
 a50 := Tryz.isAgg176
 z50 := Tryz.sizeOf176
 v50 := Tryz.zeroValue176
 t53 := Tryz.underlying272
 a53 := Tryz.isAgg272
 z53 := Tryz.sizeOf272
 v53 := Tryz.zeroValue272
 t55 := Tryz.underlying275
 a55 := Tryz.isAgg275
 z55 := Tryz.sizeOf275
 v55 := Tryz.zeroValue275
 t66 := Tryz.underlying328
 a66 := Tryz.isAgg328
 z66 := Tryz.sizeOf328
 v66 := Tryz.zeroValue328
 t70 := Tryz.underlying332
 a70 := Tryz.isAgg332
 z70 := Tryz.sizeOf332
 v70 := Tryz.zeroValue332
 t76 := Tryz.underlying357
 a76 := Tryz.isAgg357
 z76 := Tryz.sizeOf357
 v76 := Tryz.zeroValue357
 t77 := Tryz.underlying358
 a77 := Tryz.isAgg358
 z77 := Tryz.sizeOf358
 v77 := Tryz.zeroValue358 }
def Tryz.sortC_ren : Go.Shelf.Ren := ⟨fun | 6 => 88 | 15 => 98 | 14 => 191 | 28 => 206 | 29 => 207 | 20 => 252 | 21 => 253 | 22 => 254 | 23 => 255 | 24 => 256 | 25 => 257 | 26 => 258 | 27 => 259 | 46 => 286 | 47 => 262 | 48 => 263 | 49 => 287 | 50 => 288 | 57 => 306 | n => n, fun | 22 => 158 | 24 => 34 | 25 => 163 | 3 => 3 | 39 => 147 | 0 => 0 | 53 => 272 | 55 => 275 | 4 => 4 | 46 => 292 | 45 => 291 | 50 => 176 | 5 => 5 | 9 => 9 | 66 => 328 | 70 => 332 | 76 => 357 | 77 => 358 | n => n, fun | n => n⟩
theorem Tryz.sortC : Go.Proofs.SlLaysF0.n6 Tryz.prog Tryz.sortC_ren := {
 mixed := by kernel_rfl
 f6 := ⟨Tryz.f88.name, by decide, Tryz.func88.trans (congrArg some (by kernel_rfl))⟩
 f14 := ⟨Tryz.f191.name, by decide, Tryz.func191.trans (congrArg some (by kernel_rfl))⟩
 f15 := Tryz.func98.trans (congrArg some (by kernel_rfl))
 f20 := ⟨Tryz.f252.name, by decide, Tryz.func252.trans (congrArg some (by kernel_rfl))⟩
 f21 := ⟨Tryz.f253.name, by decide, Tryz.func253.trans (congrArg some (by kernel_rfl))⟩
 f22 := ⟨Tryz.f254.name, by decide, Tryz.func254.trans (congrArg some (by kernel_rfl))⟩
 f23 := ⟨Tryz.f255.name, by decide, Tryz.func255.trans (congrArg some (by kernel_rfl))⟩
 f24 := ⟨Tryz.f256.name, by decide, Tryz.func256.trans (congrArg some (by kernel_rfl))⟩
 f25 := ⟨Tryz.f257.name, by decide, Tryz.func257.trans (congrArg some (by kernel_rfl))⟩
 f26 := ⟨Tryz.f258.name, by decide, Tryz.func258.trans (congrArg some (by kernel_rfl))⟩
 f27 := ⟨Tryz.f259.name, by decide, Tryz.func259.trans (congrArg some (by kernel_rfl))⟩
 f28 := Tryz.func206.trans (congrArg some (by kernel_rfl))
 f29 := Tryz.func207.trans (congrArg some (by kernel_rfl))
 f46 := ⟨Tryz.f286.name, by decide, Tryz.func286.trans (congrArg some (by kernel_rfl))⟩
 f47 := Tryz.func262.trans (congrArg some (by kernel_rfl))
 f48 := Tryz.func263.trans (congrArg some (by kernel_rfl))
 f49 := ⟨Tryz.f287.name, by decide, Tryz.func287.trans (congrArg some (by kernel_rfl))⟩
 f50 := ⟨Tryz.f288.name, by decide, Tryz.func288.trans (congrArg some (by kernel_rfl))⟩
 f57 := ⟨Tryz.f306.name, by decide, Tryz.func306.trans (congrArg some (by kernel_rfl))⟩
 t0 := Tryz.underlying0
 a0 := Tryz.isAgg0
 z0 := Tryz.sizeOf0
 v0 := Tryz.zeroValue0
 t3 := Tryz.underlying3
 a3 := Tryz.isAgg3
 z3 := Tryz.sizeOf3
 v3 := Tryz.zeroValue3
 t4 := Tryz.underlying4
 a4 := Tryz.isAgg4
 z4 := Tryz.sizeOf4
 v4 := Tryz.zeroValue4
 t5 := Tryz.underlying5
 a5 := Tryz.isAgg5
 z5 := Tryz.sizeOf5
 v5 := Tryz.zeroValue5
 t9 := Tryz.underlying9
 a9 := Tryz.isAgg9
 z9 := Tryz.sizeOf9
 v9 := Tryz.zeroValue9
 t22 := Tryz.underlying158
 a22 := Tryz.isAgg158
 z22 := Tryz.sizeOf158
 v22 := Tryz.zeroValue158
 t25 := Tryz.underlying163
 a25 := Tryz.isAgg163
 z25 := Tryz.sizeOf163
 v25 := Tryz.zeroValue163
 t39 := Tryz.underlying147
 a39 := Tryz.isAgg147
 z39 := Tryz.sizeOf147
 v39 := Tryz.zeroValue147
 t45 := Tryz.underlying291
 a45 := Tryz.isAgg291
 z45 := Tryz.sizeOf291
 v45 := Tryz.zeroValue291
 t46 := Tryz.underlying292
 a46 := Tryz.isAgg292
 z46 := Tryz.sizeOf292
 v46 := Tryz.zeroValue292
 t50 := Tryz.underlying176
 a50 := Tryz.isAgg176
 z50 := Tryz.sizeOf176
 v50 := Tryz.zeroValue176
 t53 := Tryz.underlying272
 a53 := Tryz.isAgg272
 z53 := Tryz.sizeOf272
 v53 := Tryz.zeroValue272
 t55 := Tryz.underlying275
 a55 := Tryz.isAgg275
 z55 := Tryz.sizeOf275
 v55 := Tryz.zeroValue275
 t66 := Tryz.underlying328
 a66 := Tryz.isAgg328
 z66 := Tryz.sizeOf328
 v66 := Tryz.zeroValue328
 t70 := Tryz.underlying332
 a70 := Tryz.isAgg332
 z70 := Tryz.sizeOf332
 v70 := Tryz.zeroValue332
 t76 := Tryz.underlying357
 a76 := Tryz.isAgg357
 z76 := Tryz.sizeOf357
 v76 := Tryz.zeroValue357
 t77 := Tryz.underlying358
 a77 := Tryz.isAgg358
 z77 := Tryz.sizeOf358
 v77 := Tryz.zeroValue358 }
end Go.Proofs

