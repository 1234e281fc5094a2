/- Parts of the proof, in build order. No condition. -/
import Derived.Test.YtgmiihmahaahiaaGreatDoorQb10
import Derived.Test.YtgmiihmahaahiaaGreatDoorQb08
import Derived.Test.YtgmiihmahaahiaaGreatDoorQb03
import Derived.Test.YtgmiihmahaahiaaGreatDoorQb09
import Derived.Test.YtgmiihmahaahiaaGreatDoorQb06
import Derived.Test.YtgmiihmahaahiaaGreatDoorQb04
set_option linter.unusedSimpArgs false
set_option linter.unusedVariables false
set_option maxHeartbeats 1000000
set_option maxRecDepth 20000
namespace Go.Proofs.YtgmiihmahaahiaaGreatDoor
open Go.RowKit Go.Lp Go.Sy
open Go.Proofs.Tryz
attribute [local irreducible] aL aB awp aC fwp
theorem ym (N : Nat) (hN : N ≤ 1000000) (w : World) : Calls Tryz.prog 78 #[.int .u64 (IntKind.u64.wrap 1), .int .u64 (IntKind.u64.wrap (N : Int))] w fun e w' => e = .returned (.tuple #[.int .u64 0, .int .u64 N]) ∧ Go.Sy.Below w.heap.size w w' := by
 have h := Any.bits_Mul Tryz.lays212 1 N (by omega) (by omega) w
 have e1 : IntKind.u64.wrap 1 = 1 := by decide
 have e2 : IntKind.u64.wrap (N : Int) = N := by rw [IntKind.wrap_u64]; omega
 rw [e1, e2]
 refine h.mono fun e w' ⟨h1, h2⟩ => ⟨?_, by rw [h2]; exact Go.Sy.Below.refl _ _⟩
 rw [h1]
 have e3 : 1 * N / 18446744073709551616 = 0 := by omega
 have e4 : 1 * N % 18446744073709551616 = N := by omega
 rw [e3, e4]; rfl
theorem xD (N : Nat) (hN : N ≤ 1000000) : IntKind.i64.wrap (N : Int) = N := by rw [IntKind.wrap_i64]; omega
def gp (N k : Nat) (v : Bool) : List Bool := List.replicate k v ++ List.replicate (N - k) false
theorem nu {N k : Nat} (v : Bool) (h : k ≤ N) : (gp N k v).length = N := by simp [gp]; omega
theorem rB {N k j : Nat} (v : Bool) (hj : j ≤ k) (h : k + j ≤ N) : (gp N k v).take k ++ (gp N k v).take j ++ (gp N k v).drop (k + j) = gp N (k + j) v := by
 unfold gp
 rw [List.take_append_of_le_length (by simp), List.take_append_of_le_length (by simpa using hj), List.drop_append, List.drop_of_length_le (by simp)]
 simp only [List.take_replicate, List.drop_replicate, List.length_replicate, List.nil_append, Nat.min_self, Nat.min_eq_left hj]
 rw [List.replicate_append_replicate]
 congr 2; omega
theorem tq {ad : Option Addr} {c : Nat} (v : Bool) : Con Tryz.prog 31 [.slice ad 1 c, .int .i64 ((0 : Nat) : Int)] [Sh (.slice ad 1 c) (.sl (eQ Value.bool [v]))] [] fun r ps hp => ps = [] ∧ hp = [bH r 4 1 (eQ Value.bool [])] := by
 refine Con.enter Tryz.func31 rfl (by simp [Tryz.ntmps31]) ?_
 show awp _ _ _ _ ⟨[(0, true, _), (1, true, _)], _, _⟩
 refine aSR (aA rfl (aNs (aSR (aM rfl (aU rfl (bJ rfl rfl) (aNn ?_))))))
 refine ah _ rfl (fun h1 => ?_) (fun h1 => ?_)
 ·skip
  exact absurd h1 (by simp)
 ·skip
  refine au (aw (aSR (aM rfl (aU rfl (bq Tryz.underlying68 rfl) ?_))))
  refine aU rfl (dC (by kernel_rfl) Tryz.underlying147 rfl) ?_
  refine aM rfl ?_
  refine aU rfl (dC (by kernel_rfl) Tryz.underlying147 rfl) ?_
  refine aU rfl (bP (by kernel_rfl) rfl (fun w S fp hst => ym 0 (by omega) w)) ?_
  refine aM rfl (aU rfl (aJ rfl rfl) (aU rfl (aJ rfl rfl) (aA rfl (aA rfl (aNs (aSR (aM rfl (aU rfl (dp rfl rfl) (aM rfl (aG rfl rfl (fun hc => aq rfl) (aG rfl rfl (fun hc => dp (ab rfl hc) rfl) (aU rfl (cx rfl rfl (fun h => gf rfl h)) (aNn ?_)))))))))))))
  refine ah _ rfl (fun h2 => ?_) (fun h2 => ?_)
  ·skip
   exact absurd h2 (by decide)
  ·skip
   refine au (aw (aSR (aM rfl ?_)))
   refine aU rfl (dC (by kernel_rfl) Tryz.underlying3 rfl) ?_
   refine al (q := true) rfl (oP (m := 0) (zs := [.bool false]) el68 (by kernel_rfl) rfl (by decide) (iv rfl (rfl)) (iv rfl (rfl)) (by omega) rfl (fun v6_2 => ?_))
   refine aH (by (try simp only [nM, nN]); rfl) ?_
   refine aA rfl (aNn (aSR (aM rfl (aM rfl (aU rfl (wP el68 rfl rfl) ?_)))))
   refine aA rfl (aNs (ax (aZ [7, 8] [] [0] (fun (k : Nat) s => s = ⟨[(7, true, .slice v6_2 0 0), (8, true, .int .i64 0)], [], [bH (.slice v6_2 0 0) 4 1 (eQ Value.bool [])]⟩) (fun k => k) rfl (⟨0, rfl⟩) ?_)))
   rintro k s rfl
   refine az (aSR (aM rfl (aM rfl (aU rfl (fq 0 Tryz.underlying68 rfl rfl) (aU rfl (bJ rfl rfl) (aNn ?_))))))
   refine ah _ rfl (fun h3 => ?_) (fun h3 => ?_)
   ·skip
    exact absurd h3 (by decide)
   ·skip
    refine bg (bj (bj (bz (aw (aSR (aM rfl (aA rfl (aNn (aj ?_)))))))))
    refine bc [] [0] rfl Tryz.results31 rfl ?_ (.inr rfl)
    exact ⟨rfl, rfl⟩
theorem sQ {ad : Option Addr} {c : Nat} (v : Bool) (N : Nat) (hN : N ≤ 1000000) (h0 : 0 < N) : Con Tryz.prog 31 [.slice ad 1 c, .int .i64 N] [Sh (.slice ad 1 c) (.sl (eQ Value.bool [v]))] [] fun r ps hp => ps = [] ∧ hp = [bH r 4 1 (eQ Value.bool (List.replicate N v))] := by
 refine Con.enter Tryz.func31 rfl (by simp [Tryz.ntmps31]) ?_
 show awp _ _ _ _ ⟨[(0, true, _), (1, true, _)], _, _⟩
 refine aSR (aA rfl (aNs (aSR (aM rfl (aU rfl (bJ rfl rfl) (aNn ?_))))))
 refine ah _ rfl (fun h1 => ?_) (fun h1 => ?_)
 ·skip
  exact absurd h1 (by simp)
 ·skip
  refine au (aw (aSR (aM rfl (aU rfl (bq Tryz.underlying68 rfl) ?_))))
  refine aU rfl (dC (by kernel_rfl) Tryz.underlying147 rfl) ?_
  refine aM rfl ?_
  refine aU rfl (dC (by kernel_rfl) Tryz.underlying147 rfl) ?_
  refine aU rfl (bP (by kernel_rfl) rfl (fun w S fp hst => ym N hN w)) ?_
  refine aM rfl (aU rfl (aJ rfl rfl) (aU rfl (aJ rfl rfl) (aA rfl (aA rfl (aNs (aSR (aM rfl (aU rfl (dp rfl rfl) (aM rfl (aG rfl rfl (fun hc => aq rfl) (aG rfl rfl (fun hc => dp (ab rfl hc) rfl) (aU rfl (cx rfl rfl (fun h => gf rfl h)) (aNn ?_)))))))))))))
  refine ah _ rfl (fun h2 => ?_) (fun h2 => ?_)
  ·skip
   exact absurd h2 (by simp; omega)
  ·skip
   refine au (aw (az ?_))
   have hw := xD N hN
   refine ai (aM rfl ?_)
   refine aU rfl (dC (by kernel_rfl) Tryz.underlying3 rfl) ?_
   refine al (q := true) rfl (oP (m := N) (zs := [.bool false]) el68 (by kernel_rfl) rfl (by decide) (iv rfl (hw)) (iv rfl (hw)) (by omega) rfl (fun v6_2 => ?_))
   refine aH (by (try simp only [nM, nN]); rfl) ?_
   refine aA rfl (aNs ?_)
   refine yD (hp' := [bH (.slice v6_2 N N) 4 1 (eQ Value.bool (List.replicate N false))]) (by simp [eQ]) ?_
   refine iH 0 rfl (by simp [eQ]; omega) (fun B cp hvo hcp => ?_)
   obtain ⟨rfl, rfl⟩ : v6_2 = some ⟨B, 0, none⟩ ∧ N = cp := by simp at hvo; exact ⟨hvo.1, hvo.2.2⟩
   refine ai (aM rfl (aM rfl ?_))
   refine al (q := false) rfl (wJ (zs := List.replicate N false) (xs := [v]) 0 el68 (fun _ => rfl) rfl rfl rfl rfl (by simp) (an 0 rfl) (by simp) (by simp; omega) (by simp; omega) (gp N 1 v) (by simp [gp]) rfl ?_)
   refine aA rfl (aNs (ax ?_))
   refine aZ [7, 8] [] [0] (fun (k : Nat) s => (1 ≤ k ∧ k ≤ N) ∧ s = ⟨[(7, true, .slice (some ⟨B, 0, none⟩) N N), (8, true, .int .i64 k)], [], [bH (.slice (some ⟨B, 0, none⟩) N N) 4 1 (eQ Value.bool (gp N k v))]⟩) (fun k => N - k) rfl (⟨1, ⟨by omega, by omega⟩, rfl⟩) ?_
   rintro k s ⟨⟨hk1, hk2⟩, rfl⟩
   refine az (aSR (aM rfl (aM rfl (aU rfl (bq Tryz.underlying68 rfl) (aU rfl (bJ rfl rfl) (aNn ?_))))))
   refine ah _ rfl (fun h3 => ?_) (fun h3 => ?_)
   ·skip
    have hkN : k < N := by simp at h3; omega
    obtain ⟨j, hj⟩ : ∃ j, j = min k (N - k) := ⟨_, rfl⟩
    refine au (aw (ax ?_))
    refine bn [7] (by kernel_rfl) ?_
    show aB _ _ _ _ _ 10 #[false, false, false, false, false, false, false, false, false, false] _
    refine qS 0 rfl (by kernel_rfl) true rfl rfl (fun _ => aq rfl) ?_
    refine bU 1 rfl (by kernel_rfl) rfl (aq rfl) ?_
    refine bU 2 rfl (by kernel_rfl) rfl (aq rfl) ?_
    refine bU 3 rfl (by kernel_rfl) rfl (iD k (N - k) k el68 rfl rfl rfl hkN (Nat.le_refl _) rfl (by omega)) ?_
    refine bU 4 rfl (by kernel_rfl) rfl (aq rfl) ?_
    refine bU 5 rfl (by kernel_rfl) rfl (aq rfl) ?_
    refine bU 6 rfl (by kernel_rfl) rfl (mV k el68 rfl rfl rfl (by omega) (Nat.le_refl _)) ?_
    refine bV (q := false) 7 rfl (by kernel_rfl) rfl rfl (wF (zs := gp N k v) 0 el68 (fun _ => rfl) rfl rfl rfl rfl (nu v hk2) j hj (by rw [nu v hk2]; omega) (gp N (k + j) v) (rB v (by omega) (by omega)) ?_)
    refine cq rfl (by (try simp only [nM, nN]); rfl) (by (try simp only [aV, place, Nat.reduceBEq, if_true, if_false, reduceIte, Nat.reduceAdd, nW]); rfl) ?_
    refine bU 8 rfl (by kernel_rfl) rfl (bB rfl rfl (by omega)) ?_
    refine bU 9 rfl (by kernel_rfl) rfl (bk rfl) ?_
    refine bS (by kernel_rfl) ?_
    refine bL (aw ?_)
    refine ⟨[7, 8], [], [0], rfl, ?_⟩
    refine ⟨k + j, ⟨⟨by omega, by omega⟩, ?_⟩, by omega⟩
    rw [Int.natCast_add]; rfl
   ·skip
    have hkN : k = N := by simp at h3; omega
    subst hkN
    rw [show gp k k v = List.replicate k v by simp [gp]]
    refine bg (bj (bj (bz (aw (aSR (aM rfl (aA rfl (aNn (aj ?_)))))))))
    refine bc [] [0] rfl Tryz.results31 rfl ?_ (.inr rfl)
    exact ⟨rfl, rfl⟩
end Go.Proofs.YtgmiihmahaahiaaGreatDoor

namespace Go.Proofs.YtgmiihmahaahiaaGreatDoor
open Go.RowKit Go.Lp Go.Sy
open Go.Proofs.Tryz
attribute [local irreducible] aL aB awp aC fwp
def ux (P : Program) (kt : TypeId) : Bool := !P.stoodInHeld kt && match P.underlying kt with
 | some (.struct fs) => (match fs.toList with
   | [f, g] => f.name != "_" && g.name != "_" && f.offset == 0 && g.offset == 1 && (match P.underlying f.type with | some .string => true | _ => false) && (match P.underlying g.type with | some .string => true | _ => false)
   | _ => false)
 | _ => false
theorem tk {P : Program} {kt : TypeId} (h : ux P kt = true) : ed P kt cj := by
 unfold ux at h
 rw [Bool.and_eq_true] at h
 obtain ⟨h0, h⟩ := h
 cases hu : P.underlying kt with
 | none => rw [hu] at h; cases h
 | some t =>
   rw [hu] at h
   cases t with
   | struct fs =>
     dsimp only at h
     cases hl : fs.toList with
     | nil => rw [hl] at h; cases h
     | cons f l =>
       rw [hl] at h
       cases l with
       | nil => cases h
       | cons g l =>
         cases l with
         | cons _ _ => cases h
         | nil =>
           simp only [Bool.and_eq_true, bne_iff_ne, beq_iff_eq] at h
           obtain ⟨⟨⟨⟨⟨n1, n2⟩, o1⟩, o2⟩, t1⟩, t2⟩ := h
           have hf : P.fieldsOf kt = fs := by unfold Program.fieldsOf; rw [hu]
           refine uc (f := f) (g := g) (by rw [hf]; exact hu) (by simpa using h0) (by rw [hf]; exact hl) n1 n2 o1 o2 ?_ ?_
           · split at t1
             · assumption
             · cases t1
           · split at t2
             · assumption
             · cases t2
   | _ => cases h
theorem kyK : ed Tryz.prog 157 cj := tk (by kernel_rfl)
theorem kyT : ed Tryz.prog 9 dH := uC Tryz.underlying9
def slV {α : Type} (s : Sl α) : Value := .slice s.ad s.l.length s.cap
def gE (k : cU) : List D := [.v (.string k.1), .v (.string k.2)]
def chP (kp : List (Sl Bool)) (L : List Dfn) : cU → Option aD := fun k => (cu kp L k).map (·.p)
structure CS where
 mA : cU → Option (Sl aD)
 mN : ByteArray → Option (Sl cU)
 fa : aD × Bool
structure gO (kp : List (Sl Bool)) (L : List Dfn) (st : CS) : Prop where
 all : ∀ k, (ct st.mA k).l = (dA kp L k).map (·.p)
 names : ∀ n, (ct st.mN n).l = dV kp L n
 tw : fN kp L = if st.fa.2 = true then some st.fa.1 else none
abbrev pz (x : cg) (a b : Nat) (L : List Dfn) (st : CS) : List Res :=
 [cZ x.ball cj slV st.mA, dP 34 2 aD.row st.mA, cZ x.bch cj aD.val (chP x.kp.l L), cZ x.bnm dH slV st.mN, dP 157 2 gE st.mN, Box a 34 st.fa.1.vs, Box b 4 [.bool st.fa.2]]
theorem iU {α β : Type} [DecidableEq α] (m : α → Option (Sl β)) (k a : α) (s : Sl β) : ct (cE m k s) a = if a = k then s else ct m a := by
 unfold ct cE; by_cases h : a = k <;> simp [h]
section
variable {kp : List (Sl Bool)} {L : List Dfn} {d : Dfn} {st : CS}
theorem ui (hd : fe kp d = true) : chP kp (L ++ [d]) = match cu kp L d.key with
   | none => cE (chP kp L) d.key d.p
   | some e => if eC d < eC e then cE (chP kp L) d.key d.p else chP kp L := by
 funext k
 unfold chP
 rw [jh]
 by_cases hk : d.key = k
 · subst hk
   rw [if_pos ⟨hd, rfl⟩]
   cases hc : cu kp L d.key with
   | none => simp [better, cE]
   | some e =>
     simp only [better]
     split
     · simp [cE]
     · simp [hc]
 · rw [if_neg (fun h => hk h.2)]
   cases hc : cu kp L d.key with
   | none => simp [cE, Ne.symm hk]
   | some e =>
     dsimp only
     split
     · simp [cE, Ne.symm hk]
     · rfl
theorem gO.skip (h : gO kp L st) (hd : fe kp d = false) : gO kp (L ++ [d]) st where
 all k := by rw [h.all, iG, if_neg (by simp [hd]), List.append_nil]
 names n := by rw [h.names, fG, if_neg (by simp [hd])]
 tw := by rw [iq, if_neg (by simp [hd]), Option.or_none]; exact h.tw
theorem vK (hd : fe kp d = false) : chP kp (L ++ [d]) = chP kp L := by
 funext k; unfold chP; rw [jh, if_neg (by simp [hd])]
theorem gO.step (h : gO kp L st) (hd : fe kp d = true) {s : Sl aD} (hs : s.l = (ct st.mA d.key).l ++ [d.p]) {mN : ByteArray → Option (Sl cU)} {fa : aD × Bool}
   (hN : ∀ n, (ct mN n).l = if n = d.s.name ∧ dA kp L d.key = [] then (ct st.mN n).l ++ [d.key] else (ct st.mN n).l)
   (hf : fa = if d.s.bind = 1 ∧ ∃ e ∈ dA kp L d.key, e.s.bind = 1 then dM st.fa d.p else st.fa) (hlt : st.fa.2 = true → ¬ ltC d.p st.fa.1) : gO kp (L ++ [d]) ⟨cE st.mA d.key s, mN, fa⟩ where
 all k := by
   rw [iU, iG]
   by_cases hk : k = d.key
   · subst hk; rw [if_pos rfl, if_pos ⟨hd, rfl⟩, hs, h.all]; simp
   · rw [if_neg hk, if_neg (fun hh => hk hh.2.symm), List.append_nil, h.all]
 names n := by
   show (ct mN n).l = _
   rw [hN, fG, h.names]
   by_cases hn : n = d.s.name ∧ dA kp L d.key = []
   · rw [if_pos hn, if_pos ⟨hd, hn.1.symm, hn.2⟩]
   · rw [if_neg hn, if_neg (fun hh => hn ⟨hh.2.1.symm, hh.2.2⟩)]
 tw := by
   show _ = if fa.2 = true then some fa.1 else none
   rw [iq, h.tw, hf]
   by_cases hc : d.s.bind = 1 ∧ ∃ e ∈ dA kp L d.key, e.s.bind = 1
   · have e1 : (if fe kp d = true ∧ d.s.bind = 1 ∧ (∃ e ∈ dA kp L d.key, e.s.bind = 1) then some d.p else none) = some d.p := if_pos ⟨hd, hc⟩
     rw [e1, if_pos hc]
     unfold dM
     cases hb : st.fa.2 with
     | false => simp
     | true => simp [hlt hb, hb]
   · have e1 : (if fe kp d = true ∧ d.s.bind = 1 ∧ (∃ e ∈ dA kp L d.key, e.s.bind = 1) then some d.p else none) = none := if_neg fun hh => hc hh.2
     rw [e1, if_neg hc, Option.or_none]
end
theorem rm {kp : List (Sl Bool)} {L : List Dfn} {p : aD} (h : fN kp L = some p) : ∃ e ∈ L, e.p = p := by
 induction L using fX with
 | nil => cases h
 | snoc L d ih =>
   rw [iq, Option.or_eq_some_iff] at h
   rcases h with h | ⟨_, h⟩
   · obtain ⟨e, he, hp⟩ := ih h; exact ⟨e, List.mem_append_left _ he, hp⟩
   · split at h
     · exact ⟨d, by simp, Option.some.inj h⟩
     · cases h
theorem gO.lt {kp : List (Sl Bool)} {L : List Dfn} {d : Dfn} {st : CS} (h : gO kp L st) (hA : Asc (L ++ [d])) (hb : st.fa.2 = true) : ¬ ltC d.p st.fa.1 := by
 have := h.tw
 rw [if_pos hb] at this
 obtain ⟨e, he, hp⟩ := rm this
 rw [← hp]
 exact fun hlt => ek _ (er ((List.pairwise_append.1 hA).2.2 e he d (List.mem_singleton.2 rfl)) hlt)
def jq (kp : List (Sl Bool)) (L : List Dfn) (d : Dfn) : cU → Option aD := if dA kp L d.key = [] then cE (chP kp L) d.key d.p else chP kp L
theorem vZ {kp : List (Sl Bool)} {L : List Dfn} {d : Dfn} (hb : fe kp d = true) : ∃ old, jq kp L d d.key = some old.p ∧ (old = d ∨ old ∈ L) ∧ (dA kp L d.key = [] → old = d) ∧ (dA kp L d.key ≠ [] → cu kp L d.key = some old) := by
 unfold jq
 by_cases h : dA kp L d.key = []
 · rw [if_pos h]; exact ⟨d, sn _ _ _, .inl rfl, fun _ => rfl, fun h2 => (h2 h).elim⟩
 · rw [if_neg h]
   cases hc : cu kp L d.key with
   | none => exact (h (ep.1 hc)).elim
   | some e => exact ⟨e, by unfold chP; rw [hc]; rfl, .inr (dG hc).1, fun h2 => (h h2).elim, fun _ => rfl⟩
theorem ju {kp : List (Sl Bool)} {L : List Dfn} {d old : Dfn} (hb : fe kp d = true) (h1 : dA kp L d.key = [] → old = d) (h2 : dA kp L d.key ≠ [] → cu kp L d.key = some old) :
   chP kp (L ++ [d]) = if eC d < eC old then cE (jq kp L d) d.key d.p else jq kp L d := by
 rw [ui hb]
 unfold jq
 by_cases h : dA kp L d.key = []
 · rw [if_pos h, ep.2 h, h1 h, if_neg (Int.lt_irrefl _)]
 · rw [if_neg h, h2 h]
theorem tW (x : cg) (hok : gG x.objs.l x.kp.l) (lb b2 a b : Nat) (L : List Dfn) (d : Dfn) (hd : InD x.objs.l d) (hlen : L.length < 70) (hpre : ∃ M, bQ x.objs.l = (L ++ [d]) ++ M) (st : CS) (hI : gO x.kp.l L st) :
   Con Tryz.prog 84 [d.p.val, d.s.val, .pointer (some ⟨b2, 0, none⟩), .pointer (some ⟨a, 0, none⟩), .pointer (some ⟨b, 0, none⟩)] [At b2 0 [.v (.pointer (some ⟨lb, 0, none⟩))], At lb 0 x.row, x.ok] (pz x a b L st)
     fun _ ps hp => ps = [] ∧ ∃ y, gO x.kp.l (L ++ [d]) y ∧ hp = pz x a b (L ++ [d]) y := by
 refine Con.conv (R := fun _ ps hp => ps = [] ∧ ((∃ y, gO x.kp.l (L ++ [d]) y ∧ hp = pz x a b (L ++ [d]) y) ∨ ∃ (s : Sl aD) (mN : ByteArray → Option (Sl cU)) (fa : aD × Bool) (v : Value) (rows : List (List D)), gO x.kp.l (L ++ [d]) ⟨cE st.mA d.key s, mN, fa⟩ ∧ v = s.val ∧ rows = s.l.map aD.row ∧
   hp = [cZ x.ball cj slV (cE st.mA d.key s), dP 34 2 aD.row (lB st.mA d.key), cZ x.bch cj aD.val (chP x.kp.l (L ++ [d])), cZ x.bnm dH slV mN, dP 157 2 gE mN, Box a 34 fa.1.vs, Box b 4 [.bool fa.2], bH v 34 2 rows])) ?_ fun _ ps' hp' ⟨h1, h⟩ => ?_
 rotate_left
 · subst h1
   rcases h with h | ⟨s, mN, fa, v, rows, hc, hv, hr, rfl⟩
   · exact ⟨_, _, .refl, rfl, h⟩
   · refine ⟨_, _, (StE.put (row := aD.row) 1 7 d.key s rfl rfl hv hr (gJ _ _) rfl).trans (StE.keep [] [0, 1, 2, 3, 4, 5, 6] rfl), rfl, ⟨cE st.mA d.key s, mN, fa⟩, hc, ?_⟩
     rw [ix]; rfl
 have hA : Asc (L ++ [d]) := by
   obtain ⟨M, hM⟩ := hpre
   have := fo x.objs.l x.objs.l.length
   rw [show cI x.objs.l x.objs.l.length = bQ x.objs.l from rfl, hM] at this
   exact (List.pairwise_append.1 this).1
 have hmem : ∀ e, e = d ∨ e ∈ L → InD x.objs.l e := fun e he => by
   rw [← kN]
   obtain ⟨M, hM⟩ := hpre
   rw [hM]
   rcases he with rfl | he <;> simp [*]
 have hlA : ((st.mA d.key).getD ⟨none, 0, []⟩).l.length = (dA x.kp.l L d.key).length := by
   have := congrArg List.length (hI.all d.key)
   rw [List.length_map] at this; exact this
 have hlN : ((st.mN d.s.name).getD ⟨none, 0, []⟩).l.length ≤ 70 := by
   have := congrArg List.length (hI.names d.s.name)
   have h2 := jI (kp := x.kp.l) L d.s.name
   have h3 : ((st.mN d.s.name).getD ⟨none, 0, []⟩).l.length = (dV x.kp.l L d.s.name).length := this
   omega
 have hlA2 : ((st.mA d.key).getD ⟨none, 0, []⟩).l.length ≤ 70 := by
   have h2 := xm (kp := x.kp.l) L d.key
   omega
 refine Con.enter Tryz.func84 rfl (by simp [Tryz.ntmps84]) ?_
 show awp _ _ _ _ ⟨[(0, true, _), (1, true, _), (2, true, _), (3, true, _), (4, true, _)], _, _⟩
 refine aSR ?_
 refine al (q := true) rfl (bO rfl rfl rfl (fun b0_0 => ?_))
 refine aH (by (try simp only [nM, nN]); rfl) ?_
 refine al (q := true) rfl (bO rfl rfl rfl (fun b0_1 => ?_))
 refine aH (by (try simp only [nM, nN]); rfl) ?_
 refine aNs (aSR (aU rfl (aK (o := 0) tk101 rfl (.of (an 0 rfl)) rfl) (aU rfl (ae 7 tk34 rfl rfl rfl) (aU rfl (ae 8 tk63 rfl rfl rfl) ?_))))
 refine aU rfl (bP (by kernel_rfl) rfl (fun w S fp hst => (qg x hok lb d hd).quiet2 (an 1 rfl) (an 2 rfl) hst)) ?_
 refine aU rfl (cm rfl) (aNn ?_)
 refine ah _ rfl (fun h1 => ?_) (fun h1 => ?_)
 ·skip
  have hdef : fe x.kp.l d = false := by simpa using h1
  refine aj (aO ?_)
  rw [← vK (L := L) (d := d) hdef]
  refine gZ [] [0, 1, 2, 3, 4, 5, 6] rfl Tryz.results84 ?_ (.inr rfl)
  exact ⟨rfl, .inl ⟨st, hI.skip hdef, rfl⟩⟩
 ·skip
  have hdef : fe x.kp.l d = true := by simpa using h1
  obtain ⟨old, hold, holdm, holdf, holdc⟩ := vZ (L := L) hdef
  refine au (aw (aSR ?_))
  refine aU rfl (aa (off := 0) (by kernel_rfl) rfl) ?_
  refine aU rfl (ae 8 tk9 rfl rfl rfl) ?_
  refine aU rfl (aa (off := 1) (by kernel_rfl) rfl) ?_
  refine aU rfl (ae 8 tk9 rfl rfl rfl) ?_
  refine aU rfl (dF (l := [(0, .tmp 15), (1, .tmp 17)]) (zs := [.string .empty, .string .empty]) (pl := [(0, 1), (1, 1)]) (by kernel_rfl) (by kernel_rfl) (by kernel_rfl) rfl rfl rfl) ?_
  refine al (q := true) rfl (bp (zs := [.string .empty, .string .empty]) (by kernel_rfl) rfl (fun b2_5 => ?_))
  refine aH (by (try simp only [nM, nN]); rfl) ?_
  refine al rfl (aW 9 tk157 rfl rfl rfl rfl ?_)
  refine aH (by (try simp only [nK, nL]); rfl) ?_
  refine aNs ?_
  refine pr (X := { mN : ByteArray → Option (Sl cU) // ∀ n, (ct mN n).l = if n = d.s.name ∧ dA x.kp.l L d.key = [] then (ct st.mN n).l ++ [d.key] else (ct st.mN n).l }) (fun q => ⟨[(2, true, .pointer (some ⟨b2, 0, none⟩)), (3, true, .pointer (some ⟨a, 0, none⟩)), (4, true, .pointer (some ⟨b, 0, none⟩)), (5, true, .pointer (some ⟨b0_0, 0, none⟩)), (6, true, .pointer (some ⟨b0_1, 0, none⟩)), (7, true, .pointer (some ⟨b2_5, 0, none⟩))], [At b2 0 [.v (.pointer (some ⟨lb, 0, none⟩))], At lb 0 x.row, x.ok], [cZ x.ball cj slV st.mA, dP 34 2 aD.row st.mA, cZ x.bch cj aD.val (jq x.kp.l L d), cZ x.bnm dH slV q.1, dP 157 2 gE q.1, Box a 34 st.fa.1.vs, Box b 4 [.bool st.fa.2], Box b0_0 34 d.p.vs, Box b0_1 63 d.s.vs, Box b2_5 157 [.string d.s.name, .string d.s.version]]⟩) ?_ ?_
  ·skip
   refine az ?_
   refine bn [] (by kernel_rfl) ?_
   show aB _ _ _ _ _ 8 #[false, false, false, false, false, false, false, false] _
   refine bU 0 rfl (by kernel_rfl) rfl (aK (o := 0) tk101 rfl (.of (an 0 rfl)) rfl) ?_
   refine bU 1 rfl (by kernel_rfl) rfl (br rfl) ?_
   refine bU 2 rfl (by kernel_rfl) rfl (aa (off := 5) (by kernel_rfl) rfl) ?_
   refine bU 3 rfl (by kernel_rfl) rfl (aK (o := 5) tk102 rfl (.of (an 1 rfl)) rfl) ?_
   refine bU 4 rfl (by kernel_rfl) rfl (ae 9 tk157 rfl rfl rfl) ?_
   refine bU 5 rfl (by kernel_rfl) rfl (gg (k := d.key) (v0 := (⟨none, 0, []⟩ : Sl aD)) 0 Tryz.underlying102 (kyK) (by kernel_rfl) rfl rfl rfl) ?_
   refine bU 6 rfl (by kernel_rfl) rfl (bq Tryz.underlying158 rfl) ?_
   refine bU 7 rfl (by kernel_rfl) rfl (bK rfl rfl) ?_
   refine bS (by kernel_rfl) ?_
   refine aw ?_
   refine ah _ rfl (fun h2 => ?_) (fun h2 => ?_)
   ·skip
    have hfr : dA x.kp.l L d.key = [] := by
      have h2' : (((st.mA d.key).getD ⟨none, 0, []⟩).l.length : Int) = 0 := of_decide_eq_true h2
      rw [hlA] at h2'
      exact List.eq_nil_of_length_eq_zero (by omega)
    have hnew : ∀ s : Sl cU, s.l = (ct st.mN d.s.name).l ++ [d.key] → ∀ n, (ct (cE st.mN d.s.name s) n).l = if n = d.s.name ∧ dA x.kp.l L d.key = [] then (ct st.mN n).l ++ [d.key] else (ct st.mN n).l := fun s hs n => by
      rw [iU]
      by_cases hn : n = d.s.name
      · subst hn; rw [if_pos rfl, if_pos ⟨rfl, hfr⟩, hs]
      · rw [if_neg hn, if_neg (fun hh => hn hh.1)]
    have hch : cE (chP x.kp.l L) d.key d.p = jq x.kp.l L d := by unfold jq; rw [if_pos hfr]
    refine az (fK 4 d.s.name rfl ?_)
    refine dQ [15, 16] [] [b0_1] (by kernel_rfl) ?_
    show aC _ _ _ _ _ _ _ 17 #[false, false, false, false, false, false, false, false, false, false, false, false, false, false, false, false, false] _
    refine bD 0 rfl (by kernel_rfl) true rfl rfl (fun _ => aK (o := 0) tk101 rfl (.of (an 0 rfl)) rfl) ?_
    refine bD 1 rfl (by kernel_rfl) true rfl rfl (fun _ => br rfl) ?_
    refine bD 2 rfl (by kernel_rfl) true rfl rfl (fun _ => aa (off := 7) (by kernel_rfl) rfl) ?_
    refine bD 3 rfl (by kernel_rfl) true rfl rfl (fun _ => aK (o := 7) tk104 rfl (.of (an 1 rfl)) rfl) ?_
    refine bD 4 rfl (by kernel_rfl) true rfl rfl (fun _ => aa (off := 0) (by kernel_rfl) rfl) ?_
    refine ez 5 8 rfl (by kernel_rfl) true rfl rfl (by simp) tk9 (fun _ => rfl) rfl rfl ?_
    refine bD 6 rfl (by kernel_rfl) true rfl rfl (fun _ => aK (o := 0) tk101 rfl (.of (an 0 rfl)) rfl) ?_
    refine bD 7 rfl (by kernel_rfl) true rfl rfl (fun _ => br rfl) ?_
    refine bD 8 rfl (by kernel_rfl) true rfl rfl (fun _ => aa (off := 7) (by kernel_rfl) rfl) ?_
    refine bD 9 rfl (by kernel_rfl) true rfl rfl (fun _ => aK (o := 7) tk104 rfl (.of (an 1 rfl)) rfl) ?_
    refine bD 10 rfl (by kernel_rfl) true rfl rfl (fun _ => aa (off := 0) (by kernel_rfl) rfl) ?_
    refine ez 11 8 rfl (by kernel_rfl) true rfl rfl (by simp) tk9 (fun _ => rfl) rfl rfl ?_
    refine kY 12 rfl (by kernel_rfl) true rfl rfl (fun _ => gg (k := d.s.name) (v0 := (⟨none, 0, []⟩ : Sl cU)) 3 Tryz.underlying104 (kyT) (by kernel_rfl) rfl rfl rfl) ?_
    refine kY 13 rfl (by kernel_rfl) true rfl rfl (fun _ => ae 9 tk157 rfl rfl rfl) ?_
    refine aY 14 [] (by kernel_rfl) (aI ?_ aP)
    refine bd 14 rfl rfl (Eff.x ?_)
    refine id (cz (zs := [.string .empty, .string .empty]) (l := [(0, .tmp 40)]) el159 (by kernel_rfl) (by decide) (by decide) (by decide) rfl rfl rfl (.more rfl (.v rfl (.v rfl .nil)) .nil) rfl rfl (fun v4_14 => ?_))
    refine bt (by (try simp only [nO, nK, nL]); rfl) (by (try simp only [nM, nN]); rfl) (by (try simp only [aX, nQ, nR, aV, place, Nat.reduceBEq, if_true, if_false, reduceIte, Nat.reduceAdd, nW]); rfl) ?_
    refine aY 15 [] (by kernel_rfl) (aI ?_ aP)
    refine bd 15 rfl rfl (Eff.framed (q := false) [10, 11] rfl rfl (cY 8 rfl rfl eb) ?_)
    refine id (bX 0 el159 rfl rfl rfl rfl (cH 1 el159 rfl (by simp)) (by first | assumption | simp) (by show ((ct st.mN d.s.name).l.map gE).length + 1 ≤ _; rw [List.length_map]; exact Nat.le_trans (Nat.add_le_add_right hlN 1) (by decide)) (((ct st.mN d.s.name).l ++ [d.key]).length) (by show ((ct st.mN d.s.name).l.map gE).length + 1 = _; rw [List.length_map, List.length_append]; rfl) (fun v4_15 c4_15 => ?_))
    refine dg ?_
    refine bt (by (try simp only [nO, nK, nL]); rfl) (by (try simp only [nM, nN]); rfl) (by (try simp only [aX, nQ, nR, aV, place, Nat.reduceBEq, if_true, if_false, reduceIte, Nat.reduceAdd, nW]); rfl) ?_
    refine aY 16 [] (by kernel_rfl) (aI ?_ aP)
    refine bd 16 rfl rfl (Eff.framed (q := false) [3] rfl rfl (cY 8 rfl rfl eb) ?_)
    refine id (cV (k := d.s.name) (v := (⟨v4_15, c4_15, (ct st.mN d.s.name).l ++ [d.key]⟩ : Sl cU)) 0 Tryz.underlying104 (kyT) rfl rfl rfl rfl ?_)
    refine dg ?_
    refine bt (by (try simp only [nO, nK, nL]); rfl) (by (try simp only [nM, nN]); rfl) (by (try simp only [aX, nQ, nR, aV, place, Nat.reduceBEq, if_true, if_false, reduceIte, Nat.reduceAdd, nW]); rfl) ?_
    refine db (by kernel_rfl) ?_
    refine aw ?_
    refine nx (row := gE) 4 10 d.s.name (⟨v4_15, c4_15, (ct st.mN d.s.name).l ++ [d.key]⟩ : Sl cU) rfl rfl rfl (by first | (rw [List.map_append]; done) | (rw [List.map_append]; rfl)) (gJ _ _) rfl ?_
    rw [ix]
    refine bn [6] (by kernel_rfl) ?_
    show aB _ _ _ _ _ 7 #[false, false, false, false, false, false, false] _
    refine bU 0 rfl (by kernel_rfl) rfl (aK (o := 0) tk101 rfl (.of (an 0 rfl)) rfl) ?_
    refine bU 1 rfl (by kernel_rfl) rfl (br rfl) ?_
    refine bU 2 rfl (by kernel_rfl) rfl (aa (off := 6) (by kernel_rfl) rfl) ?_
    refine bU 3 rfl (by kernel_rfl) rfl (aK (o := 6) tk103 rfl (.of (an 1 rfl)) rfl) ?_
    refine bU 4 rfl (by kernel_rfl) rfl (ae 9 tk157 rfl rfl rfl) ?_
    refine bU 5 rfl (by kernel_rfl) rfl (ae 7 tk34 rfl rfl rfl) ?_
    refine bV 6 rfl (by kernel_rfl) rfl rfl (cV (k := d.key) (v := d.p) 2 Tryz.underlying103 (kyK) rfl rfl rfl rfl ?_)
    refine cq rfl (by (try simp only [nM, nN]); rfl) (by (try simp only [aV, place, Nat.reduceBEq, if_true, if_false, reduceIte, Nat.reduceAdd, nW]); rfl) ?_
    refine bS (by kernel_rfl) ?_
    rw [hch]
    refine aw ?_
    first
    | exact ⟨[2, 3, 4, 5, 6, 7], [2, 1, 0], [0, 1, 2, 3, 4, 5, 6, 7, 8, 9], ⟨cE st.mN d.s.name (⟨v4_15, c4_15, (ct st.mN d.s.name).l ++ [d.key]⟩ : Sl cU), hnew _ rfl⟩, rfl, rfl⟩
    | exact ⟨[2, 3, 4, 5, 6, 7], [2, 1, 0], [0, 1, 2, 3, 4, 5, 6, 7, 8, 9], ⟨st.mN, by assumption⟩, rfl, rfl⟩
   ·skip
    have hfr : dA x.kp.l L d.key ≠ [] := by
      intro h0
      have h2' : ¬ (((st.mA d.key).getD ⟨none, 0, []⟩).l.length : Int) = 0 := of_decide_eq_false h2
      rw [hlA, h0] at h2'
      exact h2' rfl
    have hsame : ∀ n, (ct st.mN n).l = if n = d.s.name ∧ dA x.kp.l L d.key = [] then (ct st.mN n).l ++ [d.key] else (ct st.mN n).l := fun n => by rw [if_neg (fun hh => hfr hh.2)]
    rw [show chP x.kp.l L = jq x.kp.l L d by unfold jq; rw [if_neg hfr]]
    refine au (aw ?_)
    first
    | exact ⟨[2, 3, 4, 5, 6, 7], [2, 1, 0], [0, 1, 2, 3, 4, 5, 6, 7, 8, 9], ⟨cE st.mN d.s.name (⟨v4_15, c4_15, (ct st.mN d.s.name).l ++ [d.key]⟩ : Sl cU), hnew _ rfl⟩, rfl, rfl⟩
    | exact ⟨[2, 3, 4, 5, 6, 7], [2, 1, 0], [0, 1, 2, 3, 4, 5, 6, 7, 8, 9], ⟨st.mN, by assumption⟩, rfl, rfl⟩
  ·skip
   rintro ⟨mN, hmN⟩
   dsimp only
   refine az ?_
   refine bn [9] (by kernel_rfl) ?_
   show aB _ _ _ _ _ 10 #[false, false, false, false, false, false, false, false, false, false] _
   refine bU 0 rfl (by kernel_rfl) rfl (aK (o := 0) tk101 rfl (.of (an 0 rfl)) rfl) ?_
   refine bU 1 rfl (by kernel_rfl) rfl (aK (o := 0) tk101 rfl (.of (an 0 rfl)) rfl) ?_
   refine bU 2 rfl (by kernel_rfl) rfl (br rfl) ?_
   refine bU 3 rfl (by kernel_rfl) rfl (aa (off := 6) (by kernel_rfl) rfl) ?_
   refine bU 4 rfl (by kernel_rfl) rfl (aK (o := 6) tk103 rfl (.of (an 1 rfl)) rfl) ?_
   refine bU 5 rfl (by kernel_rfl) rfl (ae 9 tk157 rfl rfl rfl) ?_
   refine bU 6 rfl (by kernel_rfl) rfl ((gg (k := d.key) (v0 := (⟨0, 0⟩ : aD)) 2 Tryz.underlying103 (kyK) (by kernel_rfl) rfl rfl rfl).castV (v' := aD.val old.p) (congrArg aD.val (by rw [hold]; rfl))) ?_
   refine bU 7 rfl (by kernel_rfl) rfl (bP (by kernel_rfl) rfl (fun w S fp hst => (kJ x lb old (hmem old holdm)).quiet2 (an 1 rfl) (an 2 rfl) hst)) ?_
   refine bV (q := true) 8 rfl (by kernel_rfl) rfl rfl (bp (zs := [.string .empty, .string .empty, .bool false, .int .i64 0, .int .i64 0, .int .i64 0, .int .i64 0, .int .i64 0, .int .i64 0, .int .i64 0]) (by kernel_rfl) rfl (fun b6_8 => ?_))
   refine cq rfl (by (try simp only [nM, nN]); rfl) (by (try simp only [aV, place, Nat.reduceBEq, if_true, if_false, reduceIte, Nat.reduceAdd, nW]); rfl) ?_
   refine bV 9 rfl (by kernel_rfl) rfl rfl (aW 10 tk63 rfl rfl rfl rfl ?_)
   refine cq rfl (by (try simp only [nM, nN]); rfl) (by (try simp only [aV, place, Nat.reduceBEq, if_true, if_false, reduceIte, Nat.reduceAdd, nW]); rfl) ?_
   refine bS (by kernel_rfl) ?_
   refine aw (az (az ?_))
   refine bn [] (by kernel_rfl) ?_
   show aB _ _ _ _ _ 18 #[false, false, false, false, false, false, false, false, false, false, false, false, false, false, false, false, false, false] _
   refine bU 0 rfl (by kernel_rfl) rfl (aK (o := 0) tk101 rfl (.of (an 0 rfl)) rfl) ?_
   refine bU 1 rfl (by kernel_rfl) rfl (br rfl) ?_
   refine bU 2 rfl (by kernel_rfl) rfl (aa (off := 5) (by kernel_rfl) rfl) ?_
   refine bU 3 rfl (by kernel_rfl) rfl (aK (o := 5) tk102 rfl (.of (an 1 rfl)) rfl) ?_
   refine bU 4 rfl (by kernel_rfl) rfl (ae 9 tk157 rfl rfl rfl) ?_
   refine bU 5 rfl (by kernel_rfl) rfl (gg (k := d.key) (v0 := (⟨none, 0, []⟩ : Sl aD)) 0 Tryz.underlying102 (kyK) (by kernel_rfl) rfl rfl rfl) ?_
   refine bU 6 rfl (by kernel_rfl) rfl (bq Tryz.underlying158 rfl) ?_
   refine bU 7 rfl (by kernel_rfl) rfl (dp rfl rfl) ?_
   refine bU 8 rfl (by kernel_rfl) rfl (aq rfl) ?_
   refine bG 9 rfl (by kernel_rfl) rfl rfl (fun hc => aa (off := 3) (by kernel_rfl) rfl) ?_
   refine bG 10 rfl (by kernel_rfl) rfl rfl (fun hc => ae 8 tk3 (ab rfl hc) rfl rfl) ?_
   refine bG 11 rfl (by kernel_rfl) rfl rfl (fun hc => bK (ab rfl hc) rfl) ?_
   refine bU 12 rfl (by kernel_rfl) rfl (bA rfl rfl (fun h => gt rfl h)) ?_
   refine bU 13 rfl (by kernel_rfl) rfl (aq rfl) ?_
   refine bG 14 rfl (by kernel_rfl) rfl rfl (fun hc => aa (off := 3) (by kernel_rfl) rfl) ?_
   refine bG 15 rfl (by kernel_rfl) rfl rfl (fun hc => ae 10 tk3 (ab rfl hc) rfl rfl) ?_
   refine bG 16 rfl (by kernel_rfl) rfl rfl (fun hc => bK (ab rfl hc) rfl) ?_
   refine bU 17 rfl (by kernel_rfl) rfl (bA rfl rfl (fun h => gt rfl h)) ?_
   refine bS (by kernel_rfl) ?_
   refine aw ?_
   refine ah _ rfl (fun h3 => ?_) (fun h3 => ?_)
   ·skip
    have hfa : dM st.fa d.p = if d.s.bind = 1 ∧ ∃ e ∈ dA x.kp.l L d.key, e.s.bind = 1 then dM st.fa d.p else st.fa := by
      simp only [Bool.and_eq_true, decide_eq_true_eq] at h3
      rw [hlA] at h3
      have hne : dA x.kp.l L d.key ≠ [] := fun h0 => by rw [h0] at h3; simp at h3
      obtain ⟨m1, m2, m3⟩ := dG (holdc hne)
      rw [if_pos ⟨h3.1.2, old, pU.2 ⟨m1, m2, m3⟩, h3.2⟩]
    refine ai (aU rfl (ae 7 tk34 rfl rfl rfl) ?_)
    refine al (q := false) rfl (bF [] [5, 6] (by kernel_rfl) rfl rfl rfl rfl (iC a b st.fa d.p) ?_)
    rintro _ _ _ ⟨rfl, rfl⟩
    refine cB (by (try simp only [nM, nN]); rfl) (by (try simp only [aV, place, Nat.reduceBEq, if_true, if_false, reduceIte, Nat.reduceAdd, nW]); rfl) ?_
    refine aNs (az ?_)
    refine bn [] (by kernel_rfl) ?_
    show aB _ _ _ _ _ 5 #[false, false, false, false, false] _
    refine bU 0 rfl (by kernel_rfl) rfl (ae 8 tk63 rfl rfl rfl) ?_
    refine bU 1 rfl (by kernel_rfl) rfl (bP (by kernel_rfl) rfl (fun w S fp hst => (jf _).quiet0 hst)) ?_
    refine bU 2 rfl (by kernel_rfl) rfl (ae 10 tk63 rfl rfl rfl) ?_
    refine bU 3 rfl (by kernel_rfl) rfl (bP (by kernel_rfl) rfl (fun w S fp hst => (jf _).quiet0 hst)) ?_
    refine bU 4 rfl (by kernel_rfl) rfl (bJ rfl rfl) ?_
    refine bS (by kernel_rfl) ?_
    refine aw ?_
    refine ah _ rfl (fun h4 => ?_) (fun h4 => ?_)
    ·skip
     have hcs : cE (jq x.kp.l L d) d.key d.p = chP x.kp.l (L ++ [d]) := by rw [ju hdef holdf holdc, if_pos (show eC d < eC old from of_decide_eq_true h4)]
     refine bn [6] (by kernel_rfl) ?_
     show aB _ _ _ _ _ 7 #[false, false, false, false, false, false, false] _
     refine bU 0 rfl (by kernel_rfl) rfl (aK (o := 0) tk101 rfl (.of (an 0 rfl)) rfl) ?_
     refine bU 1 rfl (by kernel_rfl) rfl (br rfl) ?_
     refine bU 2 rfl (by kernel_rfl) rfl (aa (off := 6) (by kernel_rfl) rfl) ?_
     refine bU 3 rfl (by kernel_rfl) rfl (aK (o := 6) tk103 rfl (.of (an 1 rfl)) rfl) ?_
     refine bU 4 rfl (by kernel_rfl) rfl (ae 9 tk157 rfl rfl rfl) ?_
     refine bU 5 rfl (by kernel_rfl) rfl (ae 7 tk34 rfl rfl rfl) ?_
     refine bV 6 rfl (by kernel_rfl) rfl rfl (cV (k := d.key) (v := d.p) 2 Tryz.underlying103 (kyK) rfl rfl rfl rfl ?_)
     refine cq rfl (by (try simp only [nM, nN]); rfl) (by (try simp only [aV, place, Nat.reduceBEq, if_true, if_false, reduceIte, Nat.reduceAdd, nW]); rfl) ?_
     refine bS (by kernel_rfl) ?_
     refine aw (fK 1 d.key rfl ?_)
     refine bn [7, 9, 11] (by kernel_rfl) ?_
     show aB _ _ _ _ _ 12 #[false, false, false, false, false, false, false, false, false, false, false, false] _
     refine bU 0 rfl (by kernel_rfl) rfl (aK (o := 0) tk101 rfl (.of (an 0 rfl)) rfl) ?_
     refine bU 1 rfl (by kernel_rfl) rfl (br rfl) ?_
     refine bU 2 rfl (by kernel_rfl) rfl (aa (off := 5) (by kernel_rfl) rfl) ?_
     refine bU 3 rfl (by kernel_rfl) rfl (aK (o := 5) tk102 rfl (.of (an 1 rfl)) rfl) ?_
     refine bU 4 rfl (by kernel_rfl) rfl (ae 9 tk157 rfl rfl rfl) ?_
     refine bU 5 rfl (by kernel_rfl) rfl (ae 7 tk34 rfl rfl rfl) ?_
     refine bV (q := true) 6 rfl (by kernel_rfl) rfl rfl (cz (zs := [.int .i64 0, .int .i64 0]) (l := [(0, .tmp 94)]) el158 (by kernel_rfl) (by decide) (by decide) (by decide) rfl rfl rfl (.more rfl (.v rfl (.v rfl .nil)) .nil) rfl rfl (fun v11_6 => ?_))
     refine cq rfl (by (try simp only [nM, nN]); rfl) (by (try simp only [aV, place, Nat.reduceBEq, if_true, if_false, reduceIte, Nat.reduceAdd, nW]); rfl) ?_
     refine bV 7 rfl (by kernel_rfl) rfl rfl (gQ (k := d.key) (v0 := (⟨none, 0, []⟩ : Sl aD)) 0 Tryz.underlying102 (kyK) (by kernel_rfl) rfl rfl rfl rfl (fun z11_7 => ?_))
     refine cq rfl (by (try simp only [nM, nN]); rfl) (by (try simp only [aV, place, Nat.reduceBEq, if_true, if_false, reduceIte, Nat.reduceAdd, nW]); rfl) ?_
     refine bU 8 rfl (by kernel_rfl) rfl (aJ rfl rfl) ?_
     refine qS 10 rfl (by kernel_rfl) true rfl rfl (fun _ => aJ rfl rfl) ?_
     refine bV 9 rfl (by kernel_rfl) rfl rfl (bX 11 el158 rfl rfl rfl rfl (cH 12 el158 rfl (by simp)) (by first | assumption | simp) (by show ((ct st.mA d.key).l.map aD.row).length + 1 ≤ _; rw [List.length_map]; exact Nat.le_trans (Nat.add_le_add_right hlA2 1) (by decide)) (((ct st.mA d.key).l ++ [d.p]).length) (by show ((ct st.mA d.key).l.map aD.row).length + 1 = _; rw [List.length_map, List.length_append]; rfl) (fun v11_9 c11_9 => ?_))
     refine cq rfl (by (try simp only [nM, nN]); rfl) (by (try simp only [aV, place, Nat.reduceBEq, if_true, if_false, reduceIte, Nat.reduceAdd, nW]); rfl) ?_
     refine bV 11 rfl (by kernel_rfl) rfl rfl (fT (k := d.key) (v := (⟨v11_9, c11_9, (ct st.mA d.key).l ++ [d.p]⟩ : Sl aD)) 0 (kyK) rfl rfl rfl rfl ?_)
     refine cq rfl (by (try simp only [nM, nN]); rfl) (by (try simp only [aV, place, Nat.reduceBEq, if_true, if_false, reduceIte, Nat.reduceAdd, nW]); rfl) ?_
     refine bS (by kernel_rfl) ?_
     rw [hcs, iF]
     refine gZ [] [0, 1, 2, 3, 4, 5, 6, 11] rfl Tryz.results84 ?_ (.inl rfl)
     exact ⟨rfl, .inr ⟨⟨v11_9, c11_9, (ct st.mA d.key).l ++ [d.p]⟩, mN, _, _, _, hI.step hdef rfl hmN hfa (hI.lt hA), rfl, (by rw [List.map_append]; rfl), rfl⟩⟩
    ·skip
     have hcs : jq x.kp.l L d = chP x.kp.l (L ++ [d]) := by rw [ju hdef holdf holdc, if_neg (show ¬ eC d < eC old from of_decide_eq_false h4)]
     refine au (aw (fK 1 d.key rfl ?_))
     refine bn [7, 9, 11] (by kernel_rfl) ?_
     show aB _ _ _ _ _ 12 #[false, false, false, false, false, false, false, false, false, false, false, false] _
     refine bU 0 rfl (by kernel_rfl) rfl (aK (o := 0) tk101 rfl (.of (an 0 rfl)) rfl) ?_
     refine bU 1 rfl (by kernel_rfl) rfl (br rfl) ?_
     refine bU 2 rfl (by kernel_rfl) rfl (aa (off := 5) (by kernel_rfl) rfl) ?_
     refine bU 3 rfl (by kernel_rfl) rfl (aK (o := 5) tk102 rfl (.of (an 1 rfl)) rfl) ?_
     refine bU 4 rfl (by kernel_rfl) rfl (ae 9 tk157 rfl rfl rfl) ?_
     refine bU 5 rfl (by kernel_rfl) rfl (ae 7 tk34 rfl rfl rfl) ?_
     refine bV (q := true) 6 rfl (by kernel_rfl) rfl rfl (cz (zs := [.int .i64 0, .int .i64 0]) (l := [(0, .tmp 94)]) el158 (by kernel_rfl) (by decide) (by decide) (by decide) rfl rfl rfl (.more rfl (.v rfl (.v rfl .nil)) .nil) rfl rfl (fun v11_6 => ?_))
     refine cq rfl (by (try simp only [nM, nN]); rfl) (by (try simp only [aV, place, Nat.reduceBEq, if_true, if_false, reduceIte, Nat.reduceAdd, nW]); rfl) ?_
     refine bV 7 rfl (by kernel_rfl) rfl rfl (gQ (k := d.key) (v0 := (⟨none, 0, []⟩ : Sl aD)) 0 Tryz.underlying102 (kyK) (by kernel_rfl) rfl rfl rfl rfl (fun z11_7 => ?_))
     refine cq rfl (by (try simp only [nM, nN]); rfl) (by (try simp only [aV, place, Nat.reduceBEq, if_true, if_false, reduceIte, Nat.reduceAdd, nW]); rfl) ?_
     refine bU 8 rfl (by kernel_rfl) rfl (aJ rfl rfl) ?_
     refine qS 10 rfl (by kernel_rfl) true rfl rfl (fun _ => aJ rfl rfl) ?_
     refine bV 9 rfl (by kernel_rfl) rfl rfl (bX 11 el158 rfl rfl rfl rfl (cH 12 el158 rfl (by simp)) (by first | assumption | simp) (by show ((ct st.mA d.key).l.map aD.row).length + 1 ≤ _; rw [List.length_map]; exact Nat.le_trans (Nat.add_le_add_right hlA2 1) (by decide)) (((ct st.mA d.key).l ++ [d.p]).length) (by show ((ct st.mA d.key).l.map aD.row).length + 1 = _; rw [List.length_map, List.length_append]; rfl) (fun v11_9 c11_9 => ?_))
     refine cq rfl (by (try simp only [nM, nN]); rfl) (by (try simp only [aV, place, Nat.reduceBEq, if_true, if_false, reduceIte, Nat.reduceAdd, nW]); rfl) ?_
     refine bV 11 rfl (by kernel_rfl) rfl rfl (fT (k := d.key) (v := (⟨v11_9, c11_9, (ct st.mA d.key).l ++ [d.p]⟩ : Sl aD)) 0 (kyK) rfl rfl rfl rfl ?_)
     refine cq rfl (by (try simp only [nM, nN]); rfl) (by (try simp only [aV, place, Nat.reduceBEq, if_true, if_false, reduceIte, Nat.reduceAdd, nW]); rfl) ?_
     refine bS (by kernel_rfl) ?_
     rw [hcs, iF]
     refine gZ [] [0, 1, 2, 3, 4, 5, 6, 11] rfl Tryz.results84 ?_ (.inl rfl)
     exact ⟨rfl, .inr ⟨⟨v11_9, c11_9, (ct st.mA d.key).l ++ [d.p]⟩, mN, _, _, _, hI.step hdef rfl hmN hfa (hI.lt hA), rfl, (by rw [List.map_append]; rfl), rfl⟩⟩
   ·skip
    have hfa : st.fa = if d.s.bind = 1 ∧ ∃ e ∈ dA x.kp.l L d.key, e.s.bind = 1 then dM st.fa d.p else st.fa := by
      rw [if_neg]
      rintro ⟨g1, e, he, g2⟩
      have hne : dA x.kp.l L d.key ≠ [] := fun h0 => by rw [h0] at he; cases he
      have hr := ow (holdc hne) e he
      have ho : old.s.bind = 1 := by
        unfold eC at hr
        rw [if_pos g2] at hr
        split at hr
        · assumption
        · split at hr <;> omega
      have hl0 : 0 < (dA x.kp.l L d.key).length := List.length_pos_iff.2 hne
      rw [hlA] at h3
      simp [g1, ho] at h3
      exact hne h3
    refine au (aw (az (az ?_)))
    refine bn [] (by kernel_rfl) ?_
    show aB _ _ _ _ _ 5 #[false, false, false, false, false] _
    refine bU 0 rfl (by kernel_rfl) rfl (ae 8 tk63 rfl rfl rfl) ?_
    refine bU 1 rfl (by kernel_rfl) rfl (bP (by kernel_rfl) rfl (fun w S fp hst => (jf _).quiet0 hst)) ?_
    refine bU 2 rfl (by kernel_rfl) rfl (ae 10 tk63 rfl rfl rfl) ?_
    refine bU 3 rfl (by kernel_rfl) rfl (bP (by kernel_rfl) rfl (fun w S fp hst => (jf _).quiet0 hst)) ?_
    refine bU 4 rfl (by kernel_rfl) rfl (bJ rfl rfl) ?_
    refine bS (by kernel_rfl) ?_
    refine aw ?_
    refine ah _ rfl (fun h5 => ?_) (fun h5 => ?_)
    ·skip
     have hcs : cE (jq x.kp.l L d) d.key d.p = chP x.kp.l (L ++ [d]) := by rw [ju hdef holdf holdc, if_pos (show eC d < eC old from of_decide_eq_true h5)]
     refine bn [6] (by kernel_rfl) ?_
     show aB _ _ _ _ _ 7 #[false, false, false, false, false, false, false] _
     refine bU 0 rfl (by kernel_rfl) rfl (aK (o := 0) tk101 rfl (.of (an 0 rfl)) rfl) ?_
     refine bU 1 rfl (by kernel_rfl) rfl (br rfl) ?_
     refine bU 2 rfl (by kernel_rfl) rfl (aa (off := 6) (by kernel_rfl) rfl) ?_
     refine bU 3 rfl (by kernel_rfl) rfl (aK (o := 6) tk103 rfl (.of (an 1 rfl)) rfl) ?_
     refine bU 4 rfl (by kernel_rfl) rfl (ae 9 tk157 rfl rfl rfl) ?_
     refine bU 5 rfl (by kernel_rfl) rfl (ae 7 tk34 rfl rfl rfl) ?_
     refine bV 6 rfl (by kernel_rfl) rfl rfl (cV (k := d.key) (v := d.p) 2 Tryz.underlying103 (kyK) rfl rfl rfl rfl ?_)
     refine cq rfl (by (try simp only [nM, nN]); rfl) (by (try simp only [aV, place, Nat.reduceBEq, if_true, if_false, reduceIte, Nat.reduceAdd, nW]); rfl) ?_
     refine bS (by kernel_rfl) ?_
     refine aw (fK 1 d.key rfl ?_)
     refine bn [7, 9, 11] (by kernel_rfl) ?_
     show aB _ _ _ _ _ 12 #[false, false, false, false, false, false, false, false, false, false, false, false] _
     refine bU 0 rfl (by kernel_rfl) rfl (aK (o := 0) tk101 rfl (.of (an 0 rfl)) rfl) ?_
     refine bU 1 rfl (by kernel_rfl) rfl (br rfl) ?_
     refine bU 2 rfl (by kernel_rfl) rfl (aa (off := 5) (by kernel_rfl) rfl) ?_
     refine bU 3 rfl (by kernel_rfl) rfl (aK (o := 5) tk102 rfl (.of (an 1 rfl)) rfl) ?_
     refine bU 4 rfl (by kernel_rfl) rfl (ae 9 tk157 rfl rfl rfl) ?_
     refine bU 5 rfl (by kernel_rfl) rfl (ae 7 tk34 rfl rfl rfl) ?_
     refine bV (q := true) 6 rfl (by kernel_rfl) rfl rfl (cz (zs := [.int .i64 0, .int .i64 0]) (l := [(0, .tmp 94)]) el158 (by kernel_rfl) (by decide) (by decide) (by decide) rfl rfl rfl (.more rfl (.v rfl (.v rfl .nil)) .nil) rfl rfl (fun v11_6 => ?_))
     refine cq rfl (by (try simp only [nM, nN]); rfl) (by (try simp only [aV, place, Nat.reduceBEq, if_true, if_false, reduceIte, Nat.reduceAdd, nW]); rfl) ?_
     refine bV 7 rfl (by kernel_rfl) rfl rfl (gQ (k := d.key) (v0 := (⟨none, 0, []⟩ : Sl aD)) 0 Tryz.underlying102 (kyK) (by kernel_rfl) rfl rfl rfl rfl (fun z11_7 => ?_))
     refine cq rfl (by (try simp only [nM, nN]); rfl) (by (try simp only [aV, place, Nat.reduceBEq, if_true, if_false, reduceIte, Nat.reduceAdd, nW]); rfl) ?_
     refine bU 8 rfl (by kernel_rfl) rfl (aJ rfl rfl) ?_
     refine qS 10 rfl (by kernel_rfl) true rfl rfl (fun _ => aJ rfl rfl) ?_
     refine bV 9 rfl (by kernel_rfl) rfl rfl (bX 11 el158 rfl rfl rfl rfl (cH 12 el158 rfl (by simp)) (by first | assumption | simp) (by show ((ct st.mA d.key).l.map aD.row).length + 1 ≤ _; rw [List.length_map]; exact Nat.le_trans (Nat.add_le_add_right hlA2 1) (by decide)) (((ct st.mA d.key).l ++ [d.p]).length) (by show ((ct st.mA d.key).l.map aD.row).length + 1 = _; rw [List.length_map, List.length_append]; rfl) (fun v11_9 c11_9 => ?_))
     refine cq rfl (by (try simp only [nM, nN]); rfl) (by (try simp only [aV, place, Nat.reduceBEq, if_true, if_false, reduceIte, Nat.reduceAdd, nW]); rfl) ?_
     refine bV 11 rfl (by kernel_rfl) rfl rfl (fT (k := d.key) (v := (⟨v11_9, c11_9, (ct st.mA d.key).l ++ [d.p]⟩ : Sl aD)) 0 (kyK) rfl rfl rfl rfl ?_)
     refine cq rfl (by (try simp only [nM, nN]); rfl) (by (try simp only [aV, place, Nat.reduceBEq, if_true, if_false, reduceIte, Nat.reduceAdd, nW]); rfl) ?_
     refine bS (by kernel_rfl) ?_
     rw [hcs, iF]
     refine gZ [] [0, 1, 2, 3, 4, 5, 6, 11] rfl Tryz.results84 ?_ (.inl rfl)
     exact ⟨rfl, .inr ⟨⟨v11_9, c11_9, (ct st.mA d.key).l ++ [d.p]⟩, mN, _, _, _, hI.step hdef rfl hmN hfa (hI.lt hA), rfl, (by rw [List.map_append]; rfl), rfl⟩⟩
    ·skip
     have hcs : jq x.kp.l L d = chP x.kp.l (L ++ [d]) := by rw [ju hdef holdf holdc, if_neg (show ¬ eC d < eC old from of_decide_eq_false h5)]
     refine au (aw (fK 1 d.key rfl ?_))
     refine bn [7, 9, 11] (by kernel_rfl) ?_
     show aB _ _ _ _ _ 12 #[false, false, false, false, false, false, false, false, false, false, false, false] _
     refine bU 0 rfl (by kernel_rfl) rfl (aK (o := 0) tk101 rfl (.of (an 0 rfl)) rfl) ?_
     refine bU 1 rfl (by kernel_rfl) rfl (br rfl) ?_
     refine bU 2 rfl (by kernel_rfl) rfl (aa (off := 5) (by kernel_rfl) rfl) ?_
     refine bU 3 rfl (by kernel_rfl) rfl (aK (o := 5) tk102 rfl (.of (an 1 rfl)) rfl) ?_
     refine bU 4 rfl (by kernel_rfl) rfl (ae 9 tk157 rfl rfl rfl) ?_
     refine bU 5 rfl (by kernel_rfl) rfl (ae 7 tk34 rfl rfl rfl) ?_
     refine bV (q := true) 6 rfl (by kernel_rfl) rfl rfl (cz (zs := [.int .i64 0, .int .i64 0]) (l := [(0, .tmp 94)]) el158 (by kernel_rfl) (by decide) (by decide) (by decide) rfl rfl rfl (.more rfl (.v rfl (.v rfl .nil)) .nil) rfl rfl (fun v11_6 => ?_))
     refine cq rfl (by (try simp only [nM, nN]); rfl) (by (try simp only [aV, place, Nat.reduceBEq, if_true, if_false, reduceIte, Nat.reduceAdd, nW]); rfl) ?_
     refine bV 7 rfl (by kernel_rfl) rfl rfl (gQ (k := d.key) (v0 := (⟨none, 0, []⟩ : Sl aD)) 0 Tryz.underlying102 (kyK) (by kernel_rfl) rfl rfl rfl rfl (fun z11_7 => ?_))
     refine cq rfl (by (try simp only [nM, nN]); rfl) (by (try simp only [aV, place, Nat.reduceBEq, if_true, if_false, reduceIte, Nat.reduceAdd, nW]); rfl) ?_
     refine bU 8 rfl (by kernel_rfl) rfl (aJ rfl rfl) ?_
     refine qS 10 rfl (by kernel_rfl) true rfl rfl (fun _ => aJ rfl rfl) ?_
     refine bV 9 rfl (by kernel_rfl) rfl rfl (bX 11 el158 rfl rfl rfl rfl (cH 12 el158 rfl (by simp)) (by first | assumption | simp) (by show ((ct st.mA d.key).l.map aD.row).length + 1 ≤ _; rw [List.length_map]; exact Nat.le_trans (Nat.add_le_add_right hlA2 1) (by decide)) (((ct st.mA d.key).l ++ [d.p]).length) (by show ((ct st.mA d.key).l.map aD.row).length + 1 = _; rw [List.length_map, List.length_append]; rfl) (fun v11_9 c11_9 => ?_))
     refine cq rfl (by (try simp only [nM, nN]); rfl) (by (try simp only [aV, place, Nat.reduceBEq, if_true, if_false, reduceIte, Nat.reduceAdd, nW]); rfl) ?_
     refine bV 11 rfl (by kernel_rfl) rfl rfl (fT (k := d.key) (v := (⟨v11_9, c11_9, (ct st.mA d.key).l ++ [d.p]⟩ : Sl aD)) 0 (kyK) rfl rfl rfl rfl ?_)
     refine cq rfl (by (try simp only [nM, nN]); rfl) (by (try simp only [aV, place, Nat.reduceBEq, if_true, if_false, reduceIte, Nat.reduceAdd, nW]); rfl) ?_
     refine bS (by kernel_rfl) ?_
     rw [hcs, iF]
     refine gZ [] [0, 1, 2, 3, 4, 5, 6, 11] rfl Tryz.results84 ?_ (.inl rfl)
     exact ⟨rfl, .inr ⟨⟨v11_9, c11_9, (ct st.mA d.key).l ++ [d.p]⟩, mN, _, _, _, hI.step hdef rfl hmN hfa (hI.lt hA), rfl, (by rw [List.map_append]; rfl), rfl⟩⟩
end Go.Proofs.YtgmiihmahaahiaaGreatDoor

namespace Go.Proofs.YtgmiihmahaahiaaGreatDoor
open Go.RowKit Go.Lp Go.Sy
open Go.Proofs.Tryz
attribute [local irreducible] aL aB awp aC fwp
theorem ud (ad : Option Addr) (c : Nat) (v : Bool) (N : Nat) (hN : N ≤ 1000000) : Con Tryz.prog 31 [.slice ad 1 c, .int .i64 N] [Sh (.slice ad 1 c) (.sl (eQ Value.bool [v]))] [] fun r ps hp => ps = [] ∧ hp = [bH r 4 1 (eQ Value.bool (List.replicate N v))] := by
 rcases Nat.eq_zero_or_pos N with rfl | h
 · exact tq v
 · exact sQ v N hN h
def j9 (m : ByteArray → Option Cp) : Per := ⟨fun w S => ∀ n c, m n = some c → c.ok.holds w S, fun h h1 h2 n c hc => c.ok.mono (h n c hc) h1 h2⟩
abbrev cp0 : Cp := ⟨0, ⟨none, 0, []⟩, ⟨none, 0, []⟩⟩
theorem sF {ps : List Per} {m : ByteArray → Option Cp} (h : Ent ps (j9 m)) {n : ByteArray} (hn : (m n).isSome = true) : Ent ps ((m n).getD cp0).ok := fun w S hp => by
 obtain ⟨c, hc⟩ := Option.isSome_iff_exists.1 hn
 rw [hc]; exact h w S hp n c hc
theorem tR {ps : List Per} {m : ByteArray → Option Cp} (h : Ent ps (j9 m)) {n : ByteArray} {c : Cp} (hc : Ent ps c.ok) : Ent ps (j9 (cE m n c)) := fun w S hp a c2 hm => by
 unfold cE at hm
 split at hm
 · rw [← Option.some.inj hm]; exact hc w S hp
 · exact h w S hp a c2 hm
theorem tj {ps : List Per} {K : List (Sl Bool)} {s : Sl Bool} (h : Ent ps (bW (ShF bR) K)) (hs : Ent ps (ShF bR s)) : Ent ps (bW (ShF bR) (K ++ [s])) := fun w S hp x hx => by
 rcases List.mem_append.1 hx with hx | hx
 · exact h w S hp x hx
 · rw [List.mem_singleton.1 hx]; exact hs w S hp
abbrev pX : ByteArray × (Int × Int) → List D := fun x => [.v (.string x.1), .v (.int .i64 x.2.1), .v (.int .i64 x.2.2)]
theorem tA {os : List ar} {K : List (Sl Bool)} {s : Sl Bool} (h : ∀ i : Nat, i < K.length → (elt K (i : Int)).l.length = (elt os (i : Int)).secs.l.length) (hs : s.l.length = (elt os (K.length : Int)).secs.l.length) : ∀ i : Nat, i < K.length + 1 → (elt (K ++ [s]) (i : Int)).l.length = (elt os (i : Int)).secs.l.length := fun i hi => by
 have h1 := bY (l := K ++ [s]) (i := i) (by rw [List.length_append]; exact hi)
 by_cases hlt : i < K.length
 · rw [List.getElem?_append_left hlt, bY hlt] at h1
   rw [← Option.some.inj h1]; exact h i hlt
 · obtain rfl : i = K.length := by omega
   rw [List.getElem?_append_right (Nat.le_refl _), Nat.sub_self] at h1
   rw [← Option.some.inj h1]; exact hs
theorem vL (os : Sl ar) (hn : os.l.length ≤ 1000) (hf : ∀ o ∈ os.l, rH o) (hr : ∀ o ∈ os.l, x7 o) :
   Con Tryz.prog 12 [os.val] [dh, di, ShF ar.row os, bW ar.ok os.l] [] fun r ps hp => hp = [] ∧ ∃ (K : Sl (Sl Bool)) (dv : Value), r = .tuple #[K.val, dv] ∧ K.l.length = os.l.length ∧ (∀ i : Nat, i < os.l.length → (elt K.l (i : Int)).l.length = (elt os.l (i : Int)).secs.l.length) ∧ ps = [bW (ShF bR) K.l, ShF slR K] := by
 refine Con.conv (R := fun r ps hp => ∃ (ka : Option Addr) (kc : Nat) (K : List (Sl Bool)) (dv : Value), r = .tuple #[.slice ka K.length kc, dv] ∧ K.length = os.l.length ∧ (∀ i : Nat, i < os.l.length → (elt K (i : Int)).l.length = (elt os.l (i : Int)).secs.l.length) ∧ ps = [bW (ShF bR) K] ∧ hp = [bH (.slice ka K.length kc) 68 1 (K.map slR)]) ?_ fun _ _ _ ⟨ka, kc, K, dv, h1, h2, h3, h4, h5⟩ => ?_
 rotate_left
 · subst h1 h4 h5
   exact ⟨_, _, (StE.share 0 (ShF slR ⟨ka, kc, K⟩) rfl fun _ _ _ h => et h).trans (StE.keep [0, 1] [] rfl |>.trans (StE.ents (ps' := [bW (ShF bR) K, ShF slR ⟨ka, kc, K⟩]) (el (.of (an 0 rfl)) (.of (an 1 rfl))))), rfl, ⟨ka, kc, K⟩, dv, rfl, h2, h3, rfl⟩
 refine Con.enter Tryz.func12 rfl (by simp [Tryz.ntmps12]) ?_
 show awp _ _ _ _ ⟨[(0, true, _)], _, _⟩
 refine bf (.of (an 2 rfl)) (fun hlen => ?_)
 refine aSR (aA rfl (aA rfl (aNn (aSR (aA rfl (aNn (aSR (aA rfl (aNn (aSR ?_))))))))))
 refine al (q := true) rfl (dW (dH) (Cp.val) rfl (fun b3_0 => ?_))
 refine aH (by (try simp only [nM, nN]); rfl) ?_
 refine aA rfl (aNs (az ?_))
 refine eZ 68 1 (eZ 100 3 ?_)
 refine eL (j9 (fun _ => none)) (fun _ _ _ _ _ h => by cases h) (eL (bW (ShF bR) []) (fun _ _ _ _ h => by cases h) ?_)
 show awp _ _ _ _ ⟨_, _, [_, _, _]⟩
 refine ai (aM rfl (aU rfl (bq Tryz.underlying22 rfl) (aM rfl (aNn (ax (aZ [0, 4, 5, 6, 19, 20, 21] [5, 4, 3, 2, 1, 0] [0, 1, 2] (fun (q : Nat × ((Value × List (Sl Bool)) × ((Value × List (ByteArray × (Int × Int))) × (ByteArray → Option Cp)))) st => (q.1 ≤ os.l.length ∧ q.2.1.2.length = q.1 ∧ (∀ i : Nat, i < q.1 → (elt q.2.1.2 (i : Int)).l.length = (elt os.l (i : Int)).secs.l.length) ∧ q.2.2.1.2.length ≤ 1000 * q.1) ∧ st = ⟨[(0, true, os.val), (4, true, q.2.1.1), (5, true, q.2.2.1.1), (6, true, .map (some b3_0)), (19, true, os.val), (20, true, .int .i64 os.l.length), (21, true, .int .i64 q.1)], [bW (ShF bR) q.2.1.2, j9 q.2.2.2, dh, di, ShF ar.row os, bW ar.ok os.l], [cZ b3_0 dH Cp.val q.2.2.2, bH q.2.1.1 68 1 (q.2.1.2.map slR), bH q.2.2.1.1 100 3 (q.2.2.1.2.map pX)]⟩) (fun q => os.l.length - q.1) rfl (⟨(0, ((.slice none 0 0, []), ((.slice none 0 0, []), fun _ => none))), ⟨Nat.zero_le _, rfl, (fun (i : Nat) (h : i < 0) => absurd h (Nat.not_lt_zero i)), Nat.le_refl _⟩, rfl⟩) ?_))))))
 rintro ⟨i, ⟨kv, K⟩, ⟨dv, df⟩, m⟩ st ⟨⟨hi, hK, hKl, hd⟩, rfl⟩
 dsimp only at hi hK hKl hd ⊢
 refine aSR (aU rfl (bJ rfl rfl) (aNs ?_))
 refine ah _ rfl (fun h1 => ?_) (fun h1 => ?_)
 ·skip
  have hi' : i < os.l.length := by simpa using h1
  have ho := bY hi'
  have hmem := List.mem_of_getElem? ho
  have hfo := hf _ hmem
  have hro := hr _ hmem
  generalize hoo : elt os.l (i : Int) = o at ho hmem hfo hro
  refine au (aw (az (ax (aSR (aM rfl ?_)))))
  refine cF true rfl rfl (fun _ => av Tryz.underlying22 tk61 rfl ((.of (an 4 rfl))) rfl (aS ho) rfl rfl) (fun h => absurd h (by decide)) (fun ⟨b6_1, o6_1⟩ => ?_)
  refine aU rfl (aR (o := 0) tk61 rfl (an 0 rfl) rfl rfl) ?_
  refine al (q := true) rfl (bp (zs := [.string .empty, .slice none 0 0, .slice none 0 0, .slice none 0 0, .slice none 0 0, .slice none 0 0, .slice none 0 0, .slice none 0 0, .slice none 0 0, .slice none 0 0, .slice none 0 0]) (by kernel_rfl) rfl (fun b6_3 => ?_))
  refine aH (by (try simp only [nM, nN]); rfl) ?_
  refine aA rfl ?_
  refine al rfl (aW 3 tk61 rfl rfl rfl rfl ?_)
  refine aH (by (try simp only [nK, nL]); rfl) ?_
  refine aNs ?_
  refine bf (ar.f_secs (Ent.all (.of (an 6 rfl)) ho)) (fun hls => ?_)
  refine bf (ar.f_groups (Ent.all (.of (an 6 rfl)) ho)) (fun hlg => ?_)
  refine ai ?_
  refine fS (zs := [.bool false]) (l := [(0, .const (.bool true))]) el68 (by kernel_rfl) (by decide) (by decide) (by decide) rfl _ rfl (fun hc => rfl) rfl (.more rfl (.v rfl .nil) .nil) rfl rfl (fun v7_0 => ?_)
  refine aU rfl (aa (off := 1) (by kernel_rfl) rfl) ?_
  refine aU rfl (ae 3 tk50 rfl rfl rfl) (aU rfl (bq Tryz.underlying50 rfl) ?_)
  refine al (q := true) rfl (bF [7] [] (by kernel_rfl) rfl rfl rfl rfl ((ud v7_0 1 true o.secs.l.length (by have := hfo.secs; omega)).pre (fun p hp => (List.mem_singleton.1 hp) ▸ .yes (.of (an 0 rfl)) rfl)) ?_)
  rintro r7 _ _ ⟨rfl, rfl⟩
  refine cB (by (try simp only [nM, nN]); rfl) (by (try simp only [aV, place, Nat.reduceBEq, if_true, if_false, reduceIte, Nat.reduceAdd, nW]); rfl) ?_
  refine aA rfl (aNs (aSR ?_))
  refine aU rfl (aa (off := 4) (by kernel_rfl) rfl) ?_
  refine aU rfl (ae 3 tk53 rfl rfl rfl) (aU rfl (bq Tryz.underlying53 rfl) (aM rfl (aNn (ax ?_))))
  refine aZ [0, 4, 5, 6, 7, 8, 9, 19, 20, 21, 32, 33, 34] [5, 4, 3, 2, 1, 0] [0, 1, 2, 3, 4] (fun (q : Nat × ((Value × List (ByteArray × (Int × Int))) × ((ByteArray → Option Cp) × List Bool))) st => (q.1 ≤ o.groups.l.length ∧ q.2.1.2.length ≤ df.length + q.1 ∧ q.2.2.2.length = o.secs.l.length) ∧ st = ⟨[(0, true, os.val), (4, true, kv), (5, true, q.2.1.1), (6, true, .map (some b3_0)), (7, true, .int .i64 i), (8, true, .pointer (some ⟨b6_3, 0, none⟩)), (9, true, r7), (19, true, os.val), (20, true, .int .i64 os.l.length), (21, true, .int .i64 i), (32, true, o.groups.val), (33, true, .int .i64 o.groups.l.length), (34, true, .int .i64 q.1)], [bW (ShF bR) K, j9 q.2.2.1, dh, di, ShF ar.row os, bW ar.ok os.l], [cZ b3_0 dH Cp.val q.2.2.1, bH kv 68 1 (K.map slR), bH q.2.1.1 100 3 (q.2.1.2.map pX), Box b6_3 61 o.vs, bH r7 4 1 (q.2.2.2.map bR)]⟩) (fun q => o.groups.l.length - q.1) rfl (⟨(0, ((dv, df), (m, List.replicate o.secs.l.length true))), ⟨Nat.zero_le _, Nat.le_refl _, by simp⟩, rfl⟩) ?_
  rintro ⟨j, ⟨dv2, df2⟩, m2, ks⟩ st ⟨⟨hj, hd2, hks⟩, rfl⟩
  dsimp only at hj hd2 hks ⊢
  refine aSR (aU rfl (bJ rfl rfl) (aNs ?_))
  refine ah _ rfl (fun h2 => ?_) (fun h2 => ?_)
  ·skip
   have hj' : j < o.groups.l.length := by simpa using h2
   obtain ⟨g, hg⟩ : ∃ g, o.groups.l[j]? = some g := ⟨_, List.getElem?_eq_getElem hj'⟩
   have hgr := hro.groups g (List.mem_of_getElem? hg)
   have hfs := hfo.secs
   refine au (aw (az (ax (aSR ?_))))
   refine cF true rfl rfl (fun _ => av Tryz.underlying53 tk92 rfl ((ar.f_groups (Ent.all (.of (an 5 rfl)) ho))) rfl (aS hg) rfl rfl) (fun h => absurd h (by decide)) (fun ⟨b10_0, o10_0⟩ => ?_)
   refine aU rfl (aR (o := 0) tk92 rfl (an 0 rfl) rfl rfl) ?_
   refine al (q := true) rfl (bp (zs := [.string .empty, .slice none 0 0]) (by kernel_rfl) rfl (fun b10_2 => ?_))
   refine aH (by (try simp only [nM, nN]); rfl) ?_
   refine al rfl (aW 5 tk92 rfl rfl rfl rfl ?_)
   refine aH (by (try simp only [nK, nL]); rfl) ?_
   refine aNn (aSR (aU rfl (ae 3 tk61 rfl rfl rfl) (aU rfl (ae 5 tk92 rfl rfl rfl) ?_)))
   refine al (q := true) rfl (bF [0] [] (by kernel_rfl) rfl rfl rfl rfl ((oQ o g (by omega) hgr.2).pre (el (cR.f_secs (Ent.all (ar.f_groupsA (Ent.all (.of (an 0 rfl)) ho)) hg)) (Ent.all (.of (an 0 rfl)) ho))) ?_)
   rintro _ _ _ ⟨rfl, sl, hsl, rfl, rfl⟩
   refine cB (by (try simp only [nM, nN]); rfl) (by (try simp only [aV, place, Nat.reduceBEq, if_true, if_false, reduceIte, Nat.reduceAdd, nW]); rfl) ?_
   refine aA rfl (aNn (aSR (aM rfl (aM rfl (aM rfl ?_)))))
   refine al (q := true) rfl (bF [7, 3, 2, 1, 0] [] (by kernel_rfl) rfl rfl rfl rfl (vu os i hi' (by rw [hoo]; exact hro.secs) sl (by rw [hsl]; omega) (by rw [hoo, hsl]; exact hgr.2)) ?_)
   rintro _ _ _ ⟨rfl, cp, rfl, rfl⟩
   refine cB (by (try simp only [nM, nN]); rfl) (by (try simp only [aV, place, Nat.reduceBEq, if_true, if_false, reduceIte, Nat.reduceAdd, nW]); rfl) ?_
   refine al (q := true) rfl (bp (zs := [.int .i64 0, .slice none 0 0, .slice none 0 0]) (by kernel_rfl) rfl (fun b12_4 => ?_))
   refine aH (by (try simp only [nM, nN]); rfl) ?_
   refine al rfl (aW 6 tk95 rfl rfl rfl rfl ?_)
   refine aH (by (try simp only [nK, nL]); rfl) ?_
   refine aNn (aSR (aM rfl ?_))
   refine aU rfl (aa (off := 0) (by kernel_rfl) rfl) ?_
   refine aU rfl (ae 5 tk9 rfl rfl rfl) ?_
   refine aU rfl (pj (k := g.name) (v0 := cp0) 0 Tryz.underlying88 (kyT) (by kernel_rfl) rfl rfl rfl) ?_
   refine aM rfl (aU rfl (aJ rfl rfl) (aU rfl (aJ rfl rfl) ?_))
   refine al (q := true) rfl (bp (zs := [.int .i64 0, .slice none 0 0, .slice none 0 0]) (by kernel_rfl) rfl (fun b13_7 => ?_))
   refine aH (by (try simp only [nM, nN]); rfl) ?_
   refine al rfl (aW 7 tk95 rfl rfl rfl rfl ?_)
   refine aH (by (try simp only [nK, nL]); rfl) ?_
   refine aA rfl (aNs (aSR (aM rfl (aU rfl (cm rfl) (aNn ?_)))))
   refine ah _ rfl (fun h3 => ?_) (fun h3 => ?_)
   ·skip
    refine az (eL (j9 (cE m2 g.name cp)) (tR (.of (an 4 rfl)) (.of (an 0 rfl))) (ai (aM rfl ?_)))
    refine aU rfl (aa (off := 0) (by kernel_rfl) rfl) ?_
    refine aU rfl (ae 5 tk9 rfl rfl rfl) (aU rfl (ae 6 tk95 rfl rfl rfl) ?_)
    refine al rfl (cV (k := g.name) (v := cp) 0 Tryz.underlying88 (kyT) rfl rfl rfl rfl ?_)
    refine aH (by (try simp only [nK, nL]); rfl) ?_
    refine aNn (bg (bj (bz (aw (ai ?_)))))
    refine aU rfl (bB rfl rfl (by omega)) ?_
    refine aM rfl (aNn ?_)
    refine ⟨[0, 4, 5, 6, 7, 8, 9, 19, 20, 21, 32, 33, 34], [5, 9, 3, 2, 1, 0], [0, 1, 2, 3, 4], rfl, ?_⟩
    exact ⟨(j + 1, ((dv2, df2), (cE m2 g.name cp, ks))), ⟨⟨by dsimp only; omega, by dsimp only; omega, hks⟩, rfl⟩, by dsimp only; omega⟩
   ·skip
    have hsome : (m2 g.name).isSome = true := by simpa using h3
    refine au (aw (az (az ?_)))
    refine bf (.of (an 1 rfl)) (fun hsl2 => ?_)
    refine ai (aM rfl (aU rfl (bq Tryz.underlying90 rfl) (aM rfl (aNn (ax (aZ [0, 4, 5, 6, 7, 8, 9, 11, 13, 14, 19, 20, 21, 32, 33, 34, 58, 59, 60] [8, 7, 5, 4, 3, 2, 1, 0] [0, 1, 2, 3, 4, 5, 6, 7] (fun (q : Nat × List Bool) st => (q.1 ≤ sl.l.length ∧ q.2.length = o.secs.l.length) ∧ st = ⟨[(0, true, os.val), (4, true, kv), (5, true, dv2), (6, true, .map (some b3_0)), (7, true, .int .i64 i), (8, true, .pointer (some ⟨b6_3, 0, none⟩)), (9, true, r7), (11, true, .pointer (some ⟨b10_2, 0, none⟩)), (13, true, .pointer (some ⟨b12_4, 0, none⟩)), (14, true, .pointer (some ⟨b13_7, 0, none⟩)), (19, true, os.val), (20, true, .int .i64 os.l.length), (21, true, .int .i64 i), (32, true, o.groups.val), (33, true, .int .i64 o.groups.l.length), (34, true, .int .i64 j), (58, true, sl.val), (59, true, .int .i64 sl.l.length), (60, true, .int .i64 q.1)], [cp.ok, ShF eD sl, bW (ShF bR) K, j9 m2, dh, di, ShF ar.row os, bW ar.ok os.l], [cZ b3_0 dH Cp.val m2, bH kv 68 1 (K.map slR), bH dv2 100 3 (df2.map pX), Box b6_3 61 o.vs, bH r7 4 1 (q.2.map bR), Box b10_2 92 g.vs, Box b12_4 95 cp.vs, Box b13_7 95 ((m2 g.name).getD cp0).vs]⟩) (fun q => sl.l.length - q.1) rfl (⟨(0, ks), ⟨Nat.zero_le _, hks⟩, rfl⟩) ?_))))))
    rintro ⟨kk, ks3⟩ st ⟨⟨hkk, hks3⟩, rfl⟩
    dsimp only at hkk hks3 ⊢
    refine aSR (aU rfl (bJ rfl rfl) (aNs ?_))
    refine ah _ rfl (fun h4 => ?_) (fun h4 => ?_)
    ·skip
     have hkk' : kk < sl.l.length := by simpa using h4
     obtain ⟨z, hzk⟩ : ∃ z, sl.l[kk]? = some z := ⟨_, List.getElem?_eq_getElem hkk'⟩
     have hzr := hgr.2 z (by rw [← hsl]; exact List.mem_of_getElem? hzk)
     obtain ⟨z0, rfl⟩ := Int.eq_ofNat_of_zero_le hzr.1
     obtain ⟨bb, hbb⟩ : ∃ bb, ks3[z0]? = some bb := ⟨_, List.getElem?_eq_getElem (by omega)⟩
     refine au (aw (az (ax (aSR ?_))))
     refine cF true rfl rfl (fun _ => av Tryz.underlying90 tk3 rfl ((.of (an 1 rfl))) rfl (aS hzk) rfl rfl) (fun h => absurd h (by decide)) (fun ⟨b18_0, o18_0⟩ => ?_)
     refine aU rfl (aR (o := 0) tk3 rfl (an 0 rfl) rfl rfl) (aA rfl (aNn (ai (aM rfl (aM rfl ?_)))))
     refine aU rfl (dU 4 z0 el68 rfl rfl rfl rfl (by rw [List.length_map]; omega)) ?_
     refine al (q := false) rfl (gH 4 z0 0 tk4 rfl rfl rfl (aS hbb) rfl (.v rfl .nil) rfl (by decide) ?_)
     refine cA (bL (aw (ai ?_)))
     refine aU rfl (bB rfl rfl (by omega)) ?_
     refine aM rfl (aNn ?_)
     refine ⟨[0, 4, 5, 6, 7, 8, 9, 11, 13, 14, 19, 20, 21, 32, 33, 34, 58, 59, 60], [7, 6, 5, 4, 3, 2, 1, 0], [0, 1, 2, 3, 4, 5, 6, 7], rfl, ?_⟩
     exact ⟨(kk + 1, ks3.set z0 false), ⟨⟨by dsimp only; omega, by dsimp only; rw [List.length_set]; exact hks3⟩, by dsimp only; rw [List.map_set]; rfl⟩, by dsimp only; omega⟩
    ·skip
     refine bg (bj (bj (bz (aw (aSR (aU rfl (ae 7 tk95 rfl rfl rfl) (aU rfl (ae 6 tk95 rfl rfl rfl) ?_)))))))
     refine aQ (caps := []) [7, 4] (false) (by kernel_rfl) true rfl rfl (fun _ => rfl) (fun hc => rfl) (fun hc => by rw [List.append_nil]; exact (td ((m2 g.name).getD cp0) cp).pre (el (sF (.of (an 1 rfl)) hsome) (.of (an 0 rfl)))) (fun c5 hc5 => ?_)
     refine aU rfl (cm rfl) (aNn ?_)
     refine ah _ rfl (fun h5 => ?_) (fun h5 => ?_)
     ·skip
      refine ai (aM rfl ?_)
      refine aU rfl (aa (off := 0) (by kernel_rfl) rfl) ?_
      refine aU rfl (ae 5 tk9 rfl rfl rfl) ?_
      refine aU rfl (aa (off := 0) (by kernel_rfl) rfl) ?_
      refine aU rfl (ae 7 tk3 rfl rfl rfl) (aM rfl ?_)
      refine aU rfl (dF (l := [(0, .tmp 74), (1, .tmp 76), (2, .tmp 77)]) (zs := [.string .empty, .int .i64 0, .int .i64 0]) (pl := [(0, 1), (1, 1), (2, 1)]) (by kernel_rfl) (by kernel_rfl) (by kernel_rfl) rfl rfl rfl) ?_
      refine al (q := true) rfl (cz (zs := [.string .empty, .int .i64 0, .int .i64 0]) (l := [(0, .tmp 78)]) el28 (by kernel_rfl) (by decide) (by decide) (by decide) rfl rfl rfl (.more rfl (.v rfl (.v rfl (.v rfl .nil))) .nil) rfl rfl (fun v22_7 => ?_))
      refine aH (by (try simp only [nM, nN]); rfl) ?_
      refine al rfl (bX 2 el28 rfl rfl rfl rfl (cH 8 el28 rfl (by simp)) (by first | assumption | simp) (by have := hfo.groups; show (df2.map pX).length + 1 ≤ _; rw [List.length_map]; exact Nat.le_trans (show df2.length + 1 ≤ 2000000 by omega) (by decide)) ((df2.length + 1)) (by show (df2.map pX).length + 1 = _; rw [List.length_map]) (fun v22_8 c22_8 => ?_))
      refine aH (by (try simp only [nK, nL]); rfl) ?_
      refine aA rfl (cA (bL (aw (ai ?_))))
      refine aU rfl (bB rfl rfl (by omega)) ?_
      refine aM rfl (aNn ?_)
      refine ⟨[0, 4, 5, 6, 7, 8, 9, 19, 20, 21, 32, 33, 34], [5, 4, 3, 2, 1, 0], [0, 1, 2, 3, 4], rfl, ?_⟩
      exact ⟨(j + 1, ((_, df2 ++ [(g.name, (((m2 g.name).getD cp0).obj, (i : Int)))]), (m2, ks3))), ⟨⟨by dsimp only; omega, by dsimp only; rw [List.length_append]; simp; omega, hks3⟩, by dsimp only; rw [List.map_append]; rfl⟩, by dsimp only; omega⟩
     ·skip
      refine au (bL (aw (ai ?_)))
      refine aU rfl (bB rfl rfl (by omega)) ?_
      refine aM rfl (aNn ?_)
      refine ⟨[0, 4, 5, 6, 7, 8, 9, 19, 20, 21, 32, 33, 34], [5, 4, 3, 2, 1, 0], [0, 1, 2, 3, 4], rfl, ?_⟩
      exact ⟨(j + 1, ((dv2, df2), (m2, ks3))), ⟨⟨by dsimp only; omega, by dsimp only; omega, hks3⟩, rfl⟩, by dsimp only; omega⟩
  ·skip
   refine bg (bj (bj (bz (aw ?_))))
   refine fC 4 rfl (fun ka kc hv => ?_)
   rw [List.length_map] at hv
   subst hv
   refine fu 4 (ShF bR ⟨ka, kc, ks⟩) rfl (fun _ _ _ h => et h) (eL (bW (ShF bR) (K ++ [⟨ka, kc, ks⟩])) (tj (.of (an 1 rfl)) (.of (an 0 rfl))) ?_)
   show awp _ _ _ _ ⟨_, [_, _, _, _, _, _, _, _], [_, _, _, _, _]⟩
   refine ai (aM rfl (aM rfl ?_))
   refine al (q := true) rfl (cz (zs := [.slice none 0 0]) (l := [(0, .tmp 83)]) el27 (by kernel_rfl) (by decide) (by decide) (by decide) rfl rfl rfl (.more rfl (.v rfl .nil) .nil) rfl rfl (fun v24_2 => ?_))
   refine aH (by (try simp only [nM, nN]); rfl) ?_
   refine al rfl (bX 1 el27 rfl rfl rfl rfl (cH 5 el27 rfl (by simp)) (by first | assumption | simp) (by show (K.map slR).length + 1 ≤ _; rw [List.length_map]; exact Nat.le_trans (show K.length + 1 ≤ 1001 by omega) (by decide)) ((K.length + 1)) (by show (K.map slR).length + 1 = _; rw [List.length_map]) (fun v24_3 c24_3 => ?_))
   refine aH (by (try simp only [nK, nL]); rfl) ?_
   refine aA rfl (cA (bL (aw (ai ?_))))
   refine aU rfl (bB rfl rfl (by omega)) ?_
   refine aM rfl (aNn ?_)
   refine ⟨[0, 4, 5, 6, 19, 20, 21], [7, 4, 3, 2, 1, 0], [0, 1, 2], rfl, ?_⟩
   have hje : j = o.groups.l.length := by simp at h2; omega
   have hgg := hfo.groups
   refine ⟨(i + 1, ((_, K ++ [⟨ka, kc, ks⟩]), ((dv2, df2), m2))), ⟨⟨by dsimp only; omega, by dsimp only; rw [List.length_append, hK]; rfl, ?_, by dsimp only; omega⟩, by dsimp only; rw [List.map_append]; rfl⟩, by dsimp only; omega⟩
   dsimp only
   have := tA (os := os.l) (K := K) (s := ⟨ka, kc, ks⟩) (by rw [hK]; exact hKl) (by rw [hK, hoo]; exact hks)
   rw [hK] at this; exact this
 ·skip
  refine bg (bj (bj (bz (aw (az ?_)))))
  refine fC 1 rfl (fun ka kc hv => ?_)
  rw [List.length_map] at hv
  subst hv
  have hie : i = os.l.length := by simp at h1; omega
  refine ai (aM rfl (aM rfl (aA rfl (aA rfl (aNn (aj ?_))))))
  refine wY [5] [1] rfl Tryz.results12 rfl rfl ?_ (.inr rfl)
  exact ⟨ka, kc, K, dv, rfl, by omega, (by rw [← hie]; exact hKl), rfl, rfl⟩
end Go.Proofs.YtgmiihmahaahiaaGreatDoor

namespace Go.Proofs.YtgmiihmahaahiaaGreatDoor
open Go.RowKit Go.Lp Go.Sy
def fR (vs : List aF) (s : ByteArray) : Option Nat := vs.findIdx? fun d => decide (d.name = s)
def gi (vs : List aF) (s : ByteArray) : List ByteArray := match fR vs s with
 | some i => (elt vs (i : Int)).parents.l
 | none => []
inductive Srv (vs : List aF) (a : ByteArray) : ByteArray → Prop where
 | refl : Srv vs a a
 | step {b c : ByteArray} (h : Srv vs a b) (hc : c ∈ gi vs b) : Srv vs a c
section
variable {vs : List aF}
theorem Srv.trans {a b c : ByteArray} (h : Srv vs a b) (k : Srv vs b c) : Srv vs a c := by
 induction k with
 | refl => exact h
 | step _ hc ih => exact .step ih hc
def univ (vs : List aF) (v : ByteArray) : List ByteArray := v :: vs.flatMap fun d => d.parents.l
theorem pc {v s c : ByteArray} (h : c ∈ gi vs s) : c ∈ univ vs v := by
 unfold gi at h
 cases hi : fR vs s with
 | none => rw [hi] at h; cases h
 | some i =>
   rw [hi] at h
   dsimp only at h
   unfold fR at hi
   have hl : i < vs.length := by
     rw [List.findIdx?_eq_some_iff_getElem] at hi; exact hi.1
   exact List.mem_cons_of_mem _ (List.mem_flatMap.2 ⟨_, List.mem_of_getElem? (bY hl), h⟩)
def left {α : Type} [DecidableEq α] (U l : List α) : Nat := U.countP fun x => decide (x ∉ l)
theorem rD {α : Type} [DecidableEq α] {U l l2 : List α} (h : ∀ x ∈ l, x ∈ l2) : left U l2 ≤ left U l := by
 unfold left
 refine List.countP_mono_left fun x _ hx => ?_
 simp only [decide_eq_true_eq] at hx ⊢
 exact fun hh => hx (h x hh)
theorem wV {α : Type} [DecidableEq α] {U l : List α} {s : α} (hU : s ∈ U) (hs : s ∉ l) : left U (l ++ [s]) < left U l := by
 induction U with
 | nil => cases hU
 | cons a U ih =>
   unfold left at *
   rw [List.countP_cons, List.countP_cons]
   have hle : U.countP (fun x => decide (x ∉ l ++ [s])) ≤ U.countP (fun x => decide (x ∉ l)) := rD (U := U) fun x hx => List.mem_append_left _ hx
   rcases List.mem_cons.1 hU with rfl | h
   · rw [if_neg (by simp), if_pos (by simpa using hs)]; omega
   · have := ih h
     by_cases ha : a ∉ l ++ [s]
     · rw [if_pos (by simpa using ha), if_pos (by simp at ha ⊢; exact ha.1)]; omega
     · rw [if_neg (by simpa using ha)]; omega
structure Vis (vs : List aF) (s : ByteArray) (l l2 : List ByteArray) : Prop where
 sub : ∀ x ∈ l, x ∈ l2
 self : s ∈ l2
 from_ : ∀ x ∈ l2, x ∈ l ∨ Srv vs s x
 closed : ∀ x ∈ l2, x ∉ l → ∀ c ∈ gi vs x, c ∈ l2
theorem Vis.hit {s : ByteArray} {l : List ByteArray} (h : s ∈ l) : Vis vs s l l := ⟨fun _ h => h, h, fun _ h => .inl h, fun _ h h2 => (h2 h).elim⟩
structure oe (vs : List aF) (s : ByteArray) (l l2 : List ByteArray) (k : Nat) : Prop where
 sub : ∀ x ∈ l ++ [s], x ∈ l2
 from_ : ∀ x ∈ l2, x ∈ l ∨ Srv vs s x
 closed : ∀ x ∈ l2, x ∉ l → x ≠ s → ∀ c ∈ gi vs x, c ∈ l2
 done : ∀ c ∈ (gi vs s).take k, c ∈ l2
theorem oe.start {s : ByteArray} {l : List ByteArray} : oe vs s l (l ++ [s]) 0 := ⟨fun _ h => h, fun _ h => (List.mem_append.1 h).imp id fun h => by rw [List.mem_singleton.1 h]; exact .refl, fun _ h h1 h2 => by
 rcases List.mem_append.1 h with h | h
 · exact (h1 h).elim
 · exact (h2 (List.mem_singleton.1 h)).elim, fun c h => by rw [List.take_zero] at h; cases h⟩
theorem oe.step {s p : ByteArray} {l l2 l3 : List ByteArray} {k : Nat} (h : oe vs s l l2 k) (hp : (gi vs s)[k]? = some p) (hv : Vis vs p l2 l3) : oe vs s l l3 (k + 1) where
 sub x hx := hv.sub x (h.sub x hx)
 from_ x hx := by
   rcases hv.from_ x hx with h1 | h1
   · exact h.from_ x h1
   · exact .inr ((Srv.step .refl (List.mem_of_getElem? hp)).trans h1)
 closed x hx h1 h2 c hc := by
   by_cases hx2 : x ∈ l2
   · exact hv.sub c (h.closed x hx2 h1 h2 c hc)
   · exact hv.closed x hx hx2 c hc
 done c hc := by
   rw [List.take_add_one, hp, List.mem_append] at hc
   rcases hc with hc | hc
   · exact hv.sub c (h.done c hc)
   · simp at hc; subst hc; exact hv.self
theorem oe.fin {s : ByteArray} {l l2 : List ByteArray} {k : Nat} (h : oe vs s l l2 k) (hk : (gi vs s).length ≤ k) : Vis vs s l l2 where
 sub x hx := h.sub x (List.mem_append_left _ hx)
 self := h.sub s (by simp)
 from_ := h.from_
 closed x hx h1 c hc := by
   by_cases hs : x = s
   · subst hs; exact h.done c (by rw [List.take_of_length_le hk]; exact hc)
   · exact h.closed x hx h1 hs c hc
theorem Vis.all {s : ByteArray} {l2 : List ByteArray} (h : Vis vs s [] l2) (x : ByteArray) : x ∈ l2 ↔ Srv vs s x := by
 constructor
 · intro hx
   rcases h.from_ x hx with h1 | h1
   · cases h1
   · exact h1
 · intro hx
   induction hx with
   | refl => exact h.self
   | step _ hc ih => exact h.closed _ ih (by simp) _ hc
theorem mJ {α : Type} [DecidableEq α] : ∀ (l m : List α), l.Nodup → (∀ x ∈ l, x ∈ m) → l.length ≤ m.length
 | [], _, _, _ => Nat.zero_le _
 | a :: l, m, hn, hs => by
   rw [List.nodup_cons] at hn
   have ha := hs a List.mem_cons_self
   have := mJ l (m.erase a) hn.2 fun x hx => (List.mem_erase_of_ne (fun (e : x = a) => hn.1 (by rw [← e]; exact hx))).2 (hs x (List.mem_cons_of_mem _ hx))
   rw [List.length_erase_of_mem ha] at this
   have hp := List.length_pos_of_mem ha
   simp only [List.length_cons]; omega
structure fB (vs : List aF) (v : ByteArray) (l : List ByteArray) (i k : Nat) : Prop where
 nd : l.Nodup
 first : v ∈ l
 from_ : ∀ x ∈ l, Srv vs v x
 uni : ∀ x ∈ l, x ∈ univ vs v
 done : ∀ (j : Nat) (x : ByteArray), l[j]? = some x → j < i → ∀ c ∈ gi vs x, c ∈ l
 now : ∀ x, l[i]? = some x → ∀ c ∈ (gi vs x).take k, c ∈ l
theorem fB.start (v : ByteArray) : fB vs v [v] 0 0 := ⟨by simp, by simp, fun x hx => by rw [List.mem_singleton.1 hx]; exact .refl, fun x hx => by rw [List.mem_singleton.1 hx]; exact List.mem_cons_self, fun j x _ hj => by omega, fun x _ c hc => by rw [List.take_zero] at hc; cases hc⟩
theorem fB.hit {v x p : ByteArray} {l : List ByteArray} {i k : Nat} (h : fB vs v l i k) (hx : l[i]? = some x) (hp : (gi vs x)[k]? = some p) (hh : p ∈ l) : fB vs v l i (k + 1) :=
 ⟨h.nd, h.first, h.from_, h.uni, h.done, fun y hy c hc => by
     obtain rfl : x = y := Option.some.inj (hx.symm.trans hy)
     rw [List.take_add_one, hp, List.mem_append] at hc
     rcases hc with hc | hc
     · exact h.now _ hx c hc
     · simp at hc; subst hc; exact hh⟩
theorem fB.add {v x p : ByteArray} {l : List ByteArray} {i k : Nat} (h : fB vs v l i k) (hx : l[i]? = some x) (hp : (gi vs x)[k]? = some p) (hh : p ∉ l) : fB vs v (l ++ [p]) i (k + 1) where
 nd := by rw [List.nodup_append]; exact ⟨h.nd, by simp, fun a ha b hb e => by rw [List.mem_singleton.1 hb] at e; exact hh (e ▸ ha)⟩
 first := List.mem_append_left _ h.first
 from_ y hy := by
   rcases List.mem_append.1 hy with hy | hy
   · exact h.from_ y hy
   · rw [List.mem_singleton.1 hy]; exact .step (h.from_ x (List.mem_of_getElem? hx)) (List.mem_of_getElem? hp)
 uni y hy := by
   rcases List.mem_append.1 hy with hy | hy
   · exact h.uni y hy
   · rw [List.mem_singleton.1 hy]; exact pc (List.mem_of_getElem? hp)
 done j y hy hj c hc := by
   have hi := (List.getElem?_eq_some_iff.1 hx).1
   rw [List.getElem?_append_left (by omega)] at hy
   exact List.mem_append_left _ (h.done j y hy hj c hc)
 now y hy c hc := by
   have hi := (List.getElem?_eq_some_iff.1 hx).1
   rw [List.getElem?_append_left hi] at hy
   obtain rfl : x = y := Option.some.inj (hx.symm.trans hy)
   rw [List.take_add_one, hp, List.mem_append] at hc
   rcases hc with hc | hc
   · exact List.mem_append_left _ (h.now _ hx c hc)
   · simp at hc; subst hc; simp
theorem fB.next {v x : ByteArray} {l : List ByteArray} {i k : Nat} (h : fB vs v l i k) (hx : l[i]? = some x) (hk : (gi vs x).length ≤ k) : fB vs v l (i + 1) 0 :=
 ⟨h.nd, h.first, h.from_, h.uni, fun j y hy hj c hc => by
     by_cases hji : j = i
     · subst hji
       obtain rfl : x = y := Option.some.inj (hx.symm.trans hy)
       exact h.now _ hx c (by rw [List.take_of_length_le hk]; exact hc)
     · exact h.done j y hy (by omega) c hc,
   fun y _ c hc => by rw [List.take_zero] at hc; cases hc⟩
theorem fB.fin {v : ByteArray} {l : List ByteArray} {i k : Nat} (h : fB vs v l i k) (hi : l.length ≤ i) (x : ByteArray) : x ∈ l ↔ Srv vs v x := by
 refine ⟨h.from_ x, fun hx => ?_⟩
 induction hx with
 | refl => exact h.first
 | step _ hc ih =>
   obtain ⟨j, hj⟩ := List.mem_iff_getElem?.1 ih
   exact h.done j _ hj (by have := (List.getElem?_eq_some_iff.1 hj).1; omega) _ hc
theorem fB.le {v : ByteArray} {l : List ByteArray} {i k : Nat} (h : fB vs v l i k) : l.length ≤ (univ vs v).length := by
 exact mJ _ _ h.nd h.uni
end
end Go.Proofs.YtgmiihmahaahiaaGreatDoor

namespace Go.Proofs.YtgmiihmahaahiaaGreatDoor
open Go.RowKit Go.Lp Go.Sy
open Go.Proofs.Tryz
attribute [local irreducible] aL aB awp aC fwp
abbrev lI (vs : List aF) : ByteArray → Option Int := fun s => (fR vs s).map fun i : Nat => (i : Int)
theorem nq (l : List aF) (d : aF) (s : ByteArray) : fR (l ++ [d]) s = (fR l s).or (if d.name = s then some l.length else none) := by
 unfold fR
 rw [List.findIdx?_append]
 congr 1
 by_cases h : d.name = s <;> simp [h, List.findIdx?_cons]
theorem qD (l : Sl aF) : Con Tryz.prog 101 [l.val] [ShF aF.row l] [] fun r ps hp => ps = [] ∧ ∃ b, r = .map (some b) ∧ hp = [cZ b dH eI (lI l.l)] := by
 refine Con.enter Tryz.func101 rfl (by simp [Tryz.ntmps101]) ?_
 show awp _ _ _ _ ⟨[(0, true, _)], _, _⟩
 refine bf (.of (an 0 rfl)) (fun hlen => ?_)
 refine aSR (aA rfl (aNn (aSR ?_)))
 refine al (q := true) rfl (dW (dH) (eI) rfl (fun b1_0 => ?_))
 refine aH (by (try simp only [nM, nN]); rfl) ?_
 refine aA rfl (aNs (aSR (aM rfl (aU rfl (bq Tryz.underlying24 rfl) ?_))))
 refine aM rfl (aNn (ax (aZ [3, 9, 10, 11] [0] [0] (fun (k : Nat) s => k ≤ l.l.length ∧ s = ⟨[(3, true, .map (some b1_0)), (9, true, l.val), (10, true, .int .i64 l.l.length), (11, true, .int .i64 k)], [ShF aF.row l], [cZ b1_0 dH eI (lI (l.l.take k))]⟩) (fun k => l.l.length - k) rfl (⟨0, Nat.zero_le _, rfl⟩) ?_)))
 rintro k s ⟨hk, rfl⟩
 refine aSR (aU rfl (bJ rfl rfl) (aNs ?_))
 refine ah _ rfl (fun h1 => ?_) (fun h1 => ?_)
 ·skip
  have hk' : k < l.l.length := by simpa using h1
  obtain ⟨a, ha⟩ : ∃ a, l.l[k]? = some a := ⟨l.l[k]'hk', by simp⟩
  have hlt : (l.l.take k).length = k := by rw [List.length_take]; omega
  refine au (aw (az (ax (aSR (aM rfl ?_)))))
  refine cF true rfl rfl (fun _ => av Tryz.underlying24 tk178 rfl ((.of (an 0 rfl))) rfl (aS ha) rfl rfl) (fun h => absurd h (by decide)) (fun ⟨b4_1, o4_1⟩ => ?_)
  refine aU rfl (aR (o := 0) tk178 rfl (an 0 rfl) rfl rfl) ?_
  refine al (q := true) rfl (bp (zs := [.string .empty, .slice none 0 0]) (by kernel_rfl) rfl (fun b4_3 => ?_))
  refine aH (by (try simp only [nM, nN]); rfl) ?_
  refine aA rfl ?_
  refine al rfl (aW 1 tk178 rfl rfl rfl rfl ?_)
  refine aH (by (try simp only [nK, nL]); rfl) ?_
  refine aNn (aSR (aM rfl ?_))
  refine aU rfl (aa (off := 0) (by kernel_rfl) rfl) ?_
  refine aU rfl (ae 1 tk9 rfl rfl rfl) ?_
  refine aU rfl (pj (k := a.name) (v0 := (0 : Int)) 0 Tryz.underlying173 (kyT) (by kernel_rfl) rfl rfl rfl) ?_
  refine aM rfl (aU rfl (aJ rfl rfl) (aU rfl (aJ rfl rfl) (aA rfl (aA rfl (aNn (aSR (aM rfl (aU rfl (cm rfl) (aNn ?_)))))))))
  refine ah _ rfl (fun h2 => ?_) (fun h2 => ?_)
  ·skip
   have hno : fR (l.l.take k) a.name = none := by simpa using h2
   have hm : cE (lI (l.l.take k)) a.name (k : Int) = lI (l.l.take (k + 1)) := by
     funext s
     unfold lI cE
     rw [List.take_add_one, ha, Option.toList_some, nq, hlt]
     by_cases hs : s = a.name
     · subst hs; rw [if_pos rfl, hno, if_pos rfl]; rfl
     · rw [if_neg hs, if_neg (Ne.symm hs), Option.or_none]
   refine ai (aM rfl ?_)
   refine aU rfl (aa (off := 0) (by kernel_rfl) rfl) ?_
   refine aU rfl (ae 1 tk9 rfl rfl rfl) (aM rfl ?_)
   refine al rfl (cV (k := a.name) (v := (k : Int)) 0 Tryz.underlying173 (kyT) rfl rfl rfl rfl ?_)
   refine aH (by (try simp only [nK, nL]); rfl) ?_
   refine cA (bL (aw (ai ?_)))
   refine aU rfl (bB rfl rfl (by omega)) ?_
   refine aM rfl (aNn ?_)
   refine ⟨[3, 9, 10, 11], [0], [0], rfl, ?_⟩
   exact ⟨k + 1, ⟨by omega, by rw [← hm]; rfl⟩, by omega⟩
  ·skip
   have hyes : (fR (l.l.take k) a.name).isSome = true := by simpa using h2
   have hm : lI (l.l.take k) = lI (l.l.take (k + 1)) := by
     funext s
     unfold lI
     rw [List.take_add_one, ha, Option.toList_some, nq]
     by_cases hs : a.name = s
     · subst hs
       obtain ⟨i, hi⟩ := Option.isSome_iff_exists.1 hyes
       rw [hi]; rfl
     · rw [if_neg hs, Option.or_none]
   refine au (bL (aw (ai ?_)))
   refine aU rfl (bB rfl rfl (by omega)) ?_
   refine aM rfl (aNn ?_)
   refine ⟨[3, 9, 10, 11], [0], [0], rfl, ?_⟩
   exact ⟨k + 1, ⟨by omega, by rw [← hm]; rfl⟩, by omega⟩
 ·skip
  refine bg (bj (bj (bz (aw (aSR (aM rfl (aA rfl (aNn (aj ?_)))))))))
  refine bc [] [0] rfl Tryz.results101 rfl ?_ (.inr rfl)
  exact ⟨rfl, b1_0, rfl, by rw [List.take_of_length_le (by simpa using h1)]; rfl⟩
theorem tk175 : tyk Tryz.prog 175 = some (false, 1) := by kernel_rfl
abbrev xp (l : Sl aF) (bo ba bl bv bout bat : Nat) : List Per :=
 [At bo 0 [.v (.map (some bout))], At ba 0 [.v (.map (some bat))], At bl 0 [.v (slV l)], At bv 0 [.v (.func (.func 102) #[] #[.pointer (some ⟨bo, 0, none⟩), .pointer (some ⟨ba, 0, none⟩), .pointer (some ⟨bl, 0, none⟩), .pointer (some ⟨bv, 0, none⟩)])], ShM bat dH eI (lI l.l), ShF aF.row l, bW aF.ok l.l]
abbrev rn (l : Sl aF) (bo ba bl bv bout bat : Nat) (s : ByteArray) (m : List ByteArray) : Prop :=
 Con Tryz.prog 102 [.string s, .pointer (some ⟨bo, 0, none⟩), .pointer (some ⟨ba, 0, none⟩), .pointer (some ⟨bl, 0, none⟩), .pointer (some ⟨bv, 0, none⟩)] (xp l bo ba bl bv bout bat) [cZ bout dH vBo (kC m)]
   fun _ ps hp => ps = [] ∧ ∃ m2, Vis l.l s m m2 ∧ hp = [cZ bout dH vBo (kC m2)]
theorem qE (l : Sl aF) (v : ByteArray) (bo ba bl bv bout bat : Nat) (s : ByteArray) (m : List ByteArray) (hs : s ∈ univ l.l v) (ih : ∀ s' m', left (univ l.l v) m' < left (univ l.l v) m → s' ∈ univ l.l v → rn l bo ba bl bv bout bat s' m') : rn l bo ba bl bv bout bat s m := by
 refine Con.enter Tryz.func102 rfl (by simp [Tryz.ntmps102]) ?_
 show awp _ _ _ _ ⟨[(0, true, _), (1, true, _), (2, true, _), (3, true, _), (4, true, _)], _, _⟩
 refine az (aSR (aU rfl (aK (o := 0) tk125 rfl (.of (an 0 rfl)) rfl) (aM rfl ?_)))
 refine aU rfl (gg (k := s) (v0 := false) 0 Tryz.underlying125 (kyT) (by kernel_rfl) rfl rfl rfl) ?_
 refine aNn ?_
 refine ah _ rfl (fun h1 => ?_) (fun h1 => ?_)
 ·skip
  have hin : s ∈ m := by have h1' : ((kC m s).getD false) = true := h1; rw [l7] at h1'; simpa using h1'
  refine aj (aO ?_)
  refine gZ [] [0] rfl Tryz.results102 ?_ (.inr rfl)
  exact ⟨rfl, m, .hit hin, rfl⟩
 ·skip
  have hin : s ∉ m := by have h1' : ((kC m s).getD false) = false := h1; rw [l7] at h1'; simpa using h1'
  have hlt := wV hs hin
  refine au (aw (aSR (aU rfl (aK (o := 0) tk125 rfl (.of (an 0 rfl)) rfl) (aM rfl ?_))))
  refine al rfl (cV (k := s) (v := true) 0 Tryz.underlying125 (kyT) rfl rfl rfl rfl ?_)
  refine aH (by (try simp only [nK, nL]); rfl) ?_
  refine aNs ?_
  rw [← vJ]
  refine ai (aU rfl (aK (o := 0) tk173 rfl (.of (an 1 rfl)) rfl) (aM rfl ?_))
  refine aU rfl (jY (k := s) (v0 := (0 : Int)) Tryz.underlying173 (kyT) (by kernel_rfl) rfl rfl ((.of (an 4 rfl)))) ?_
  refine aM rfl (aU rfl (aJ rfl rfl) (aU rfl (aJ rfl rfl) (aA rfl (aA rfl (aNn (aSR (aM rfl (aNn ?_))))))))
  refine ah _ rfl (fun h2 => ?_) (fun h2 => ?_)
  ·skip
   obtain ⟨i, hi⟩ : ∃ i, fR l.l s = some i := by
     cases hc : fR l.l s with
     | some i => exact ⟨i, rfl⟩
     | none => simp [hc] at h2
   have hz : ((fR l.l s).map fun i : Nat => (i : Int)).getD 0 = i := by rw [hi]; rfl
   have hil : i < l.l.length := by unfold fR at hi; rw [List.findIdx?_eq_some_iff_getElem] at hi; exact hi.1
   have hpar : gi l.l s = (elt l.l (i : Int)).parents.l := by unfold gi; rw [hi]
   refine aSR (aU rfl (aK (o := 0) tk24 rfl (.of (an 2 rfl)) rfl) (aM rfl ?_))
   refine cF true rfl rfl (fun _ => av Tryz.underlying24 tk178 rfl ((.of (an 5 rfl))) rfl (aS (bY hil)) (hz) rfl) (fun h => absurd h (by decide)) (fun ⟨b4_2, o4_2⟩ => ?_)
   refine aU rfl (aa (off := 1) (by kernel_rfl) rfl) ?_
   refine aU rfl (aR (o := 1) tk77 rfl (an 0 rfl) rfl rfl) (aU rfl (bq Tryz.underlying77 rfl) (aM rfl (aNn (ax ?_))))
   refine bf (aF.f_parents (Ent.all (f := aF.ok) (.of (an 7 rfl)) (bY hil))) (fun hlen => ?_)
   refine aZ [1, 2, 3, 4, 26, 27, 28] [6, 5, 4, 3, 2, 1, 0] [0] (fun (q : Nat × List ByteArray) st => (q.1 ≤ (elt l.l (i : Int)).parents.l.length ∧ oe l.l s m q.2 q.1) ∧ st = ⟨[(1, true, .pointer (some ⟨bo, 0, none⟩)), (2, true, .pointer (some ⟨ba, 0, none⟩)), (3, true, .pointer (some ⟨bl, 0, none⟩)), (4, true, .pointer (some ⟨bv, 0, none⟩)), (26, true, (elt l.l (i : Int)).parents.val), (27, true, .int .i64 (elt l.l (i : Int)).parents.l.length), (28, true, .int .i64 q.1)], xp l bo ba bl bv bout bat, [cZ bout dH vBo (kC q.2)]⟩) (fun q => (elt l.l (i : Int)).parents.l.length - q.1) rfl (⟨(0, m ++ [s]), ⟨Nat.zero_le _, .start⟩, rfl⟩) ?_
   rintro ⟨k, m2⟩ st ⟨⟨hk, hV⟩, rfl⟩
   dsimp only at hk hV
   refine aSR (aU rfl (bJ rfl rfl) (aNs ?_))
   refine ah _ rfl (fun h3 => ?_) (fun h3 => ?_)
   ·skip
    have hk' : k < (elt l.l (i : Int)).parents.l.length := by simp at h3; omega
    obtain ⟨p, hp⟩ : ∃ p, (elt l.l (i : Int)).parents.l[k]? = some p := ⟨_, List.getElem?_eq_getElem hk'⟩
    have hp2 : (gi l.l s)[k]? = some p := by rw [hpar]; exact hp
    refine au (aw (az (ax (aSR ?_))))
    refine cF true rfl rfl (fun _ => av Tryz.underlying77 tk9 rfl ((aF.f_parents (Ent.all (f := aF.ok) (.of (an 6 rfl)) (bY hil)))) rfl (aS hp) rfl rfl) (fun h => absurd h (by decide)) (fun ⟨b6_0, o6_0⟩ => ?_)
    refine aU rfl (aR (o := 0) tk9 rfl (an 0 rfl) rfl rfl) (aA rfl (aNn (ai (aU rfl (aK (o := 0) tk175 rfl (.of (an 4 rfl)) rfl) (aM rfl ?_)))))
    refine al (q := false) rfl (iB [6, 5, 4, 3, 2, 1, 0] [0] (by kernel_rfl) rfl rfl rfl rfl rfl (ih p m2 (Nat.lt_of_le_of_lt (rD fun x hx => hV.sub x hx) hlt) (pc (List.mem_of_getElem? hp2))) ?_)
    rintro _ _ _ ⟨rfl, m3, hv3, rfl⟩
    refine cB (by (try simp only [nM, nN]); rfl) (by (try simp only [aV, place, Nat.reduceBEq, if_true, if_false, reduceIte, Nat.reduceAdd, nW]); rfl) ?_
    refine cA (bL (aw (ai ?_)))
    refine aU rfl (bB rfl rfl (by omega)) ?_
    refine aM rfl (aNn ?_)
    refine ⟨[1, 2, 3, 4, 26, 27, 28], [6, 5, 4, 3, 2, 1, 0], [0], rfl, ?_⟩
    exact ⟨(k + 1, m3), ⟨⟨by dsimp only; omega, hV.step hp2 hv3⟩, rfl⟩, by dsimp only; omega⟩
   ·skip
    refine bg (bj (bj (bz ?_)))
    refine gZ [] [0] rfl Tryz.results102 ?_ (.inl rfl)
    exact ⟨rfl, m2, hV.fin (by rw [hpar]; simp at h3; omega), rfl⟩
  ·skip
   have hpar : gi l.l s = [] := by
     unfold gi
     cases hc : fR l.l s with
     | none => rfl
     | some i => simp [hc] at h2
   refine au ?_
   refine gZ [] [0] rfl Tryz.results102 ?_ (.inl rfl)
   exact ⟨rfl, m ++ [s], oe.start.fin (by rw [hpar]; exact Nat.le_refl _), rfl⟩
theorem mL (l : Sl aF) (v : ByteArray) (bo ba bl bv bout bat : Nat) : ∀ (N : Nat) (s : ByteArray) (m : List ByteArray), left (univ l.l v) m < N → s ∈ univ l.l v → rn l bo ba bl bv bout bat s m
 | 0, _, _, h, _ => by omega
 | N + 1, s, m, h, hs => qE l v bo ba bl bv bout bat s m hs fun s' m' h' hs' => mL l v bo ba bl bv bout bat N s' m' (by omega) hs'
theorem rr (l : Sl aF) (v : ByteArray) : Con Tryz.prog 47 [l.val, .string v] [ShF aF.row l, bW aF.ok l.l] [] fun r ps hp => ps = [] ∧ ∃ b m, r = .map (some b) ∧ (∀ x, x ∈ m ↔ Srv l.l v x) ∧ hp = [cZ b dH vBo (kC m)] := by
 refine Con.enter Tryz.func47 rfl (by simp [Tryz.ntmps47]) ?_
 show awp _ _ _ _ ⟨[(0, true, _), (1, true, _)], _, _⟩
 refine aSR ?_
 refine al (q := true) rfl (x5 ([slV l]) rfl rfl rfl (fun b0_0 => ?_))
 refine aH (by (try simp only [nM, nN]); rfl) ?_
 refine aA rfl (aNn (aSR (aU rfl (ae 0 tk24 rfl rfl rfl) ?_)))
 refine al (q := true) rfl (bF [1] [] (by kernel_rfl) rfl rfl rfl rfl (qD l) ?_)
 rintro _ _ _ ⟨rfl, bat, rfl, rfl⟩
 refine cB (by (try simp only [nM, nN]); rfl) (by (try simp only [aV, place, Nat.reduceBEq, if_true, if_false, reduceIte, Nat.reduceAdd, nW]); rfl) ?_
 refine al (q := true) rfl (bp (zs := [.map none]) (by kernel_rfl) rfl (fun b1_2 => ?_))
 refine aH (by (try simp only [nM, nN]); rfl) ?_
 refine al rfl (aW 2 tk173 rfl rfl rfl rfl ?_)
 refine aH (by (try simp only [nK, nL]); rfl) ?_
 refine aNn (aSR ?_)
 refine al (q := true) rfl (dW (dH) (vBo) rfl (fun b2_0 => ?_))
 refine aH (by (try simp only [nM, nN]); rfl) ?_
 refine al (q := true) rfl (bp (zs := [.map none]) (by kernel_rfl) rfl (fun b2_1 => ?_))
 refine aH (by (try simp only [nM, nN]); rfl) ?_
 refine al rfl (aW 4 tk125 rfl rfl rfl rfl ?_)
 refine aH (by (try simp only [nK, nL]); rfl) ?_
 refine aNn (aSR ?_)
 refine al (q := true) rfl (bp (zs := [.nilFunc]) (by kernel_rfl) rfl (fun b3_0 => ?_))
 refine aH (by (try simp only [nM, nN]); rfl) ?_
 refine aNn (aSR (aU rfl (dn (l := [.tmp 6, .tmp 5, .tmp 2, .tmp 7]) rfl) ?_))
 refine al rfl (aW 5 tk175 rfl rfl rfl rfl ?_)
 refine aH (by (try simp only [nK, nL]); rfl) ?_
 refine aNs (fu 1 (ShM bat dH eI (lI l.l)) rfl (fun _ _ _ hh => rL hh) (bT 5 rfl rfl (bT 0 rfl rfl (bT 2 rfl rfl (bT 4 rfl rfl ?_)))))
 show awp _ _ _ _ ⟨_, At b2_1 0 [.v (.map (some b2_0))] :: At b1_2 0 [.v (.map (some bat))] :: At b0_0 0 [.v (slV l)] :: At b3_0 0 [.v (.func (.func 102) #[] #[.pointer (some ⟨b2_1, 0, none⟩), .pointer (some ⟨b1_2, 0, none⟩), .pointer (some ⟨b0_0, 0, none⟩), .pointer (some ⟨b3_0, 0, none⟩)])] :: ShM bat dH eI (lI l.l) :: _ :: _ :: [], _⟩
 refine ai (aU rfl (aK (o := 0) tk175 rfl (.of (an 3 rfl)) rfl) (aM rfl ?_))
 refine al (q := false) rfl (iB [6, 5, 4, 3, 2, 1, 0] [3] (by kernel_rfl) rfl rfl rfl rfl rfl (mL l v b2_1 b1_2 b0_0 b3_0 b2_0 bat _ v [] (Nat.lt_succ_self _) List.mem_cons_self) ?_)
 rintro _ _ _ ⟨rfl, m2, hv, rfl⟩
 refine cB (by (try simp only [nM, nN]); rfl) (by (try simp only [aV, place, Nat.reduceBEq, if_true, if_false, reduceIte, Nat.reduceAdd, nW]); rfl) ?_
 refine aNn (aSR (aU rfl (aK (o := 0) tk125 rfl (.of (an 0 rfl)) rfl) (aA rfl (aNn (aj ?_)))))
 refine bc [] [3] rfl Tryz.results47 rfl ?_ (.inr rfl)
 exact ⟨rfl, b2_0, m2, rfl, hv.all, rfl⟩
theorem mg (l : Sl aF) (a : ByteArray) : Con Tryz.prog 22 [l.val, .string a, .string a] [ShF aF.row l, bW aF.ok l.l] [] fun r _ _ => r = .bool true := by
 refine Con.enter Tryz.func22 rfl (by simp [Tryz.ntmps22]) ?_
 show awp _ _ _ _ ⟨[(0, true, _), (1, true, _), (2, true, _)], _, _⟩
 refine aSR (aA rfl (aNn (aSR (aM rfl (aM rfl ?_)))))
 refine aU rfl ((dR rfl rfl).castV (v' := .bool true) (by rw [decide_eq_true rfl])) ?_
 refine aM rfl (aG rfl rfl (fun hc => aq rfl) (aG rfl rfl (fun hc => aq rfl) ?_))
 refine aQ (caps := []) [1, 0] (none) (by kernel_rfl) _ rfl rfl (fun _ => rfl) (fun hc => (aN (ab rfl hc) (aN (ab rfl hc) rfl))) (fun hc => by rw [List.append_nil]; exact (absurd hc (by decide) : Con _ _ _ _ _ (YN (fun m : Option Nat => Value.map m) fun _ => True))) (fun m6 hm6 => ?_)
 refine aG rfl rfl (fun hc => aq rfl) ?_
 refine aG rfl rfl (fun hc => (absurd hc (by decide) : Quiet _ _ _ _ (.bool false))) ?_
 refine aU rfl (cx rfl rfl (fun h => gf rfl h)) (aA rfl (aNn (aj ?_)))
 refine bc [] [] rfl Tryz.results22 rfl ?_ (.inr rfl)
 rfl
theorem mf (l : Sl aF) (a b : ByteArray) (hab : a ≠ b) (SV : ByteArray → ByteArray → Bool) (hSV : ∀ x y, SV x y = true ↔ Srv l.l x y) : Con Tryz.prog 22 [l.val, .string a, .string b] [ShF aF.row l, bW aF.ok l.l] [] fun r _ _ => r = .bool (SV a b) := by
 refine Con.enter Tryz.func22 rfl (by simp [Tryz.ntmps22]) ?_
 show awp _ _ _ _ ⟨[(0, true, _), (1, true, _), (2, true, _)], _, _⟩
 refine aSR (aA rfl (aNn (aSR (aM rfl (aM rfl ?_)))))
 refine aU rfl ((dR rfl rfl).castV (v' := .bool false) (by rw [decide_eq_false hab])) ?_
 refine aM rfl (aM rfl (aM rfl ?_))
 refine al (q := true) rfl (bF [1, 0] [] (by kernel_rfl) rfl rfl rfl rfl (rr l a) ?_)
 rintro _ _ _ ⟨rfl, bm, m, rfl, hm, rfl⟩
 refine cB (by (try simp only [nM, nN]); rfl) (by (try simp only [aV, place, Nat.reduceBEq, if_true, if_false, reduceIte, Nat.reduceAdd, nW]); rfl) ?_
 refine aM rfl ?_
 refine aU rfl ((gg (k := b) (v0 := false) 0 Tryz.underlying125 (kyT) (by kernel_rfl) rfl rfl rfl).castV (v' := .bool (SV a b)) (by (show Value.bool ((kC m b).getD false) = _); rw [l7]; congr 1; rw [Bool.eq_iff_iff, hSV, ← hm]; simp)) ?_
 refine aU rfl (cx rfl rfl (fun _ => rfl)) (aA rfl (aNn (aj ?_)))
 refine bc [] [] rfl Tryz.results22 rfl ?_ (.inr rfl)
 rfl
theorem lU (l : Sl aF) (a b : ByteArray) (SV : ByteArray → ByteArray → Bool) (hSV : ∀ x y, SV x y = true ↔ Srv l.l x y) : Con Tryz.prog 22 [l.val, .string a, .string b] [ShF aF.row l, bW aF.ok l.l] [] fun r _ _ => r = .bool (SV a b) := by
 by_cases hab : a = b
 · subst hab
   rw [show SV a a = true from (hSV a a).2 .refl]
   exact mg l a
 · exact mf l a b hab SV hSV
end Go.Proofs.YtgmiihmahaahiaaGreatDoor

