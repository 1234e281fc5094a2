/- Parts of the proof, in build order. No condition. -/
import Derived.Test.YtgmiihmahaahiaaGreatDoorQc11
import Derived.Test.YtgmiihmahaahiaaGreatDoorQc03
set_option linter.unusedSimpArgs false
set_option linter.unusedVariables false
set_option maxHeartbeats 1000000
set_option maxRecDepth 20000
namespace Go.Proofs.YtgmiihmahaahiaaGreatDoor
open Go.RowKit Go.Lp Go.Sy Go.Sort
open Go.Proofs.Tryz
attribute [local irreducible] aL aB awp aC fwp
theorem kG (p q : aD) : ltOf uE p q = decide (ltC p q) := by
 unfold ltOf; rw [Bool.eq_iff_iff, decide_eq_true_eq, decide_eq_true_eq, jD]
theorem xn : SWO (ltOf uE) where
 irrefl x := by rw [kG, decide_eq_false_iff_not]; exact dR x
 trans x y z h1 h2 := by rw [kG, decide_eq_true_eq] at *; exact er h1 h2
 ntrans x y z h1 h2 := by
   rw [kG, decide_eq_false_iff_not] at *
   unfold ltC at *; omega
theorem uR (v : Value) (zs : List aD) (hz : zs.length ≤ 1000) : Con Tryz.prog 88 [v, .func (.func 89) #[] #[]] [] [bA v 34 2 (zs.map aD.row)]
   fun _ ps hp => ps = [] ∧ ∃ q : List aD, q.Perm zs ∧ (q.Pairwise fun a b => ¬ ltC b a) ∧ hp = [bA v 34 2 (q.map aD.row)] :=
 (nS (enc := aD.vs) Tryz.sortC (by decide) Tryz.isAgg34 Tryz.sizeOf34 (fun _ => rfl) (fun x v hv => by simp at hv; rcases hv with rfl | rfl <;> rfl) uE xn 89 (by kernel_rfl) (fun x y => mu x y) (T := 34) (v := v) zs (by omega)).post
   fun _ _ _ ⟨h1, q, h2, h3, h4⟩ => ⟨h1, q, h2, h3.imp fun h => by rw [jD] at h; exact h, h4⟩
section
variable {kp : List (Sl Bool)} {L : List Dfn}
structure nb (kp : List (Sl Bool)) (L : List Dfn) (seen : List ByteArray) (mM : ByteArray → Option aD) (fa : aD × Bool) : Prop where
 got : ∀ n ∈ seen, mM n = (cF kp L n)[0]?.map (·.p)
 not : ∀ n, n ∉ seen → mM n = none
 tw : fa.2 = true → ∃ n ∈ seen, ∃ d, (cF kp L n)[1]? = some d ∧ fa.1 = d.p
 lo : ∀ n ∈ seen, ∀ d, (cF kp L n)[1]? = some d → fa.2 = true ∧ ¬ ltC d.p fa.1
theorem nb.start {fa : aD × Bool} (h : fa.2 = false) : nb kp L [] (fun _ => none) fa := ⟨fun _ h => (by cases h), fun _ _ => rfl, fun h2 => (by rw [h] at h2; cases h2), fun _ h => by cases h⟩
theorem nb.step {seen : List ByteArray} {mM : ByteArray → Option aD} {fa : aD × Bool} (h : nb kp L seen mM fa) {n : ByteArray} (hn : n ∉ seen) {mM' : ByteArray → Option aD} {fa' : aD × Bool}
   (hm : mM' = match (cF kp L n)[0]? with | some d => cC mM n d.p | none => mM) (hf : fa' = match (cF kp L n)[1]? with | some d => dO fa d.p | none => fa) : nb kp L (n :: seen) mM' fa' where
 got a ha := by
   rw [hm]
   rcases List.mem_cons.1 ha with rfl | ha
   · cases h0 : (cF kp L a)[0]? with
     | none => exact h.not a hn
     | some d => exact tI _ _ _
   · have hne : a ≠ n := fun e => hn (e ▸ ha)
     cases h0 : (cF kp L n)[0]? with
     | none => exact h.got a ha
     | some d => exact (tv _ _ hne).trans (h.got a ha)
 not a ha := by
   rw [hm]
   have hne : a ≠ n := fun e => ha (e ▸ List.mem_cons_self)
   have h2 := h.not a fun h => ha (List.mem_cons_of_mem _ h)
   cases h0 : (cF kp L n)[0]? with
   | none => exact h2
   | some d => exact (tv _ _ hne).trans h2
 tw hb := by
   rw [hf] at hb ⊢
   cases h1 : (cF kp L n)[1]? with
   | none =>
     rw [h1] at hb
     obtain ⟨a, ha, d, h2, h3⟩ := h.tw hb
     exact ⟨a, List.mem_cons_of_mem _ ha, d, h2, h3⟩
   | some d =>
     unfold dO
     dsimp only
     split
     · exact ⟨n, List.mem_cons_self, d, h1, rfl⟩
     · rename_i hno
       have hb2 : fa.2 = true := by
         cases hb3 : fa.2 with
         | true => rfl
         | false => exact (hno (.inl hb3)).elim
       obtain ⟨a, ha, d2, h2, h3⟩ := h.tw hb2
       exact ⟨a, List.mem_cons_of_mem _ ha, d2, h2, h3⟩
 lo a ha d hd := by
   rw [hf]
   have old : ∀ p : aD, fa.2 = true → ¬ ltC p fa.1 → ∀ q : aD, (dO fa q).2 = true ∧ ¬ ltC p (dO fa q).1 := fun p hb hp q => by
     unfold dO
     split
     · rename_i hc
       refine ⟨rfl, fun hlt => ?_⟩
       rcases hc with hc | hc
       · rw [hb] at hc; cases hc
       · exact hp (er hlt hc)
     · exact ⟨hb, hp⟩
   rcases List.mem_cons.1 ha with rfl | ha
   · rw [hd]
     dsimp only
     unfold dO
     split
     · exact ⟨rfl, dR _⟩
     · rename_i hno
       refine ⟨?_, fun hlt => hno (.inr hlt)⟩
       cases hb3 : fa.2 with
       | true => rfl
       | false => exact (hno (.inl hb3)).elim
   · obtain ⟨h1, h2⟩ := h.lo a ha d hd
     cases h3 : (cF kp L n)[1]? with
     | none => exact ⟨h1, h2⟩
     | some d2 => exact old _ h1 h2 _
theorem nb.fin {seen : List ByteArray} {mM : ByteArray → Option aD} {fa : aD × Bool} (h : nb kp L seen mM fa) (hA : Asc L) (hall : ∀ n, n ∉ seen → cF kp L n = []) :
   dQ kp L = (if fa.2 = true then some fa.1 else none) ∧ ∀ n, mM n = (cF kp L n).head?.map (·.p) := by
 refine ⟨?_, fun n => ?_⟩
 · cases hb : fa.2 with
   | true =>
     obtain ⟨n, hn, d, h1, h2⟩ := h.tw hb
     rw [if_pos rfl, h2]
     refine qF hA h1 fun n2 d2 h3 => ?_
     by_cases hs : n2 ∈ seen
     · rw [← h2]; exact (h.lo n2 hs d2 h3).2
     · rw [hall n2 hs] at h3; cases h3
   | false =>
     rw [if_neg (by decide)]
     refine qz hA fun n => ?_
     by_cases hs : n ∈ seen
     · cases h1 : (cF kp L n)[1]? with
       | none => rfl
       | some d => have := (h.lo n hs d h1).1; rw [hb] at this; cases this
     · rw [hall n hs]; rfl
 · by_cases hs : n ∈ seen
   · rw [h.got n hs, List.head?_eq_getElem?]
   · rw [h.not n hs, hall n hs]; rfl
theorem sA (hA : Asc L) {n : ByteArray} (h : dU kp L n = []) : cF kp L n = [] := by
 apply List.eq_nil_iff_forall_not_mem.2
 intro d hd
 have : d.p ∈ (cF kp L n).map (·.p) := List.mem_map_of_mem hd
 rw [← oD hA, h] at this
 simp [fy] at this
end
def fx (kp : List (Sl Bool)) (L : List Dfn) : Option aD := (ea kp L).or (dQ kp L)
theorem pz (x : br) (hok : ew x.objs.l x.kp.l) (lb b1 a b : Nat) : Con Tryz.prog 36 [.pointer (some ⟨lb, 0, none⟩), .func (.func 84) #[] #[.pointer (some ⟨b1, 0, none⟩), .pointer (some ⟨a, 0, none⟩), .pointer (some ⟨b, 0, none⟩)]]
   [At b1 0 [.v (.pointer (some ⟨lb, 0, none⟩))], At lb 0 x.row, x.ok] (qm x a b [] ⟨fun _ => none, fun _ => none, (⟨0, 0⟩, false)⟩) fun _ ps hp => ps = [] ∧ ∃ st, hJ x.kp.l (aW x.objs.l) st ∧ hp = qm x a b (aW x.objs.l) st := by
 refine (lE (I := hJ x.kp.l []) (I' := hJ x.kp.l (aW x.objs.l)) (l := qm x a b []) (l' := qm x a b (aW x.objs.l)) (x := ⟨fun _ => none, fun _ => none, (⟨0, 0⟩, false)⟩)
   ((pT x hok.n hok.sy lb 84 [.pointer (some ⟨b1, 0, none⟩), .pointer (some ⟨a, 0, none⟩), .pointer (some ⟨b, 0, none⟩)] (cx (At b1 0 [.v (.pointer (some ⟨lb, 0, none⟩))]) (cx (At lb 0 x.row) x.ok)) (fun L => mQ (hJ x.kp.l L) (qm x a b L)) (by kernel_rfl)
     fun L d hd hl hp => ox fun st hst => (uF x hok lb b1 a b L d hd hl hp st hst).pre fun p hp => ?_).pre fun p hp => ?_) ⟨fun _ => rfl, fun _ => rfl, rfl⟩)
 · simp only [List.mem_cons, List.not_mem_nil, or_false] at hp
   rcases hp with rfl | rfl | rfl
   · exact (Ent.of (List.mem_singleton.2 rfl)).left
   · exact (Ent.of (List.mem_singleton.2 rfl)).right.left
   · exact (Ent.of (List.mem_singleton.2 rfl)).right.right
 · simp only [List.mem_cons, List.not_mem_nil, or_false] at hp
   rcases hp with rfl | rfl | rfl
   · exact .of (an 1 rfl)
   · exact .of (an 2 rfl)
   · exact .mk2 (.of (an 0 rfl)) (.mk2 (.of (an 1 rfl)) (.of (an 2 rfl)))
theorem gW {os : List ax} {kp : List (Sl Bool)} (hok : ew os kp) : (aW os).length ≤ 70 := by
 have hfl : ∀ i, i ≤ os.length → (bQ os i).length ≤ 14 * i := fun i => by
   induction i with
   | zero => intro _; exact Nat.le_refl _
   | succ i ih =>
     intro hi
     rw [cq, List.length_append]
     have h1 := ih (by omega)
     have h2 := hok.sy _ (List.mem_of_getElem? (bN (l := os) (i := i) (by omega)))
     have h3 : (cu (i : Int) (elt os (i : Int)).syms.l).length = (elt os (i : Int)).syms.l.length := by unfold cu; simp
     omega
 have := hfl _ (Nat.le_refl _)
 have := hok.n
 unfold aW; omega
theorem qT (x : br) (hok : ew x.objs.l x.kp.l) (lb : Nat) : Con Tryz.prog 35 [.pointer (some ⟨lb, 0, none⟩)] [At lb 0 x.row, x.ok]
   [dg x.ball cj slV (fun _ => none : cW → Option (Sl aD)), dS 34 2 aD.row (fun _ => none : cW → Option (Sl aD)), dg x.bch cj aD.val (chP x.kp.l []), dg x.bnm dK slV (fun _ => none : ByteArray → Option (Sl cW)), dS 157 2 gO (fun _ => none : ByteArray → Option (Sl cW)), dg x.bmn dK aD.val (fun _ => none : ByteArray → Option aD)]
   fun r ps hp => ps = [] ∧ ∃ (st : CS) (at_ : aD) (mM : ByteArray → Option aD), hJ x.kp.l (aW x.objs.l) st ∧ r = .tuple #[.int .i64 (if (fx x.kp.l (aW x.objs.l)).isSome then 4 else 0), at_.val] ∧ (∀ p, fx x.kp.l (aW x.objs.l) = some p → at_ = p) ∧
     (fx x.kp.l (aW x.objs.l) = none → ∀ n, mM n = (cF x.kp.l (aW x.objs.l) n).head?.map (·.p)) ∧
     hp = [dg x.ball cj slV st.mA, dS 34 2 aD.row st.mA, dg x.bch cj aD.val (chP x.kp.l (aW x.objs.l)), dg x.bnm dK slV st.mN, dS 157 2 gO st.mN, dg x.bmn dK aD.val mM] := by
 have hA : Asc (aW x.objs.l) := ed _ _
 have hfl : (aW x.objs.l).length ≤ 70 := gW hok
 generalize hL : aW x.objs.l = L at hA hfl
 have hin : ∀ e ∈ L, InD x.objs.l e := fun e he => by rw [← i1, hL]; exact he
 refine Con.enter Tryz.func35 rfl (by simp [Tryz.ntmps35]) ?_
 show awp _ _ _ _ ⟨[(0, true, _)], _, _⟩
 refine aSR ?_
 refine aj (q := true) rfl (bI rfl rfl rfl (fun b0_0 => ?_))
 refine aHN ?_
 refine aA rfl ?_
 refine aj (q := true) rfl (bp (zs := [.int .i64 0, .int .i64 0]) (by kernel_rfl) rfl (fun b0_2 => ?_))
 refine aHN ?_
 refine aNn (aSR ?_)
 refine aj (q := true) rfl (bp (zs := [.int .i64 0, .int .i64 0]) (by kernel_rfl) rfl (fun b1_0 => ?_))
 refine aHN ?_
 refine aNn (aSR ?_)
 refine aj (q := true) rfl (bp (zs := [.bool false]) (by kernel_rfl) rfl (fun b2_0 => ?_))
 refine aHN ?_
 refine aj rfl (aT 9 tk4 rfl rfl rfl rfl ?_)
 refine aHK ?_
 refine aNs (bL 6 rfl rfl ?_)
 show awp _ _ _ _ ⟨_, At _ 0 _ :: _, _⟩
 refine ae (aU rfl (aN (o := 0) tk101 rfl (.of (an 0 rfl)) rfl) (aU rfl (dq (l := [.tmp 1, .tmp 4, .tmp 5]) rfl) ?_))
 refine aj (q := false) rfl (bF [2, 1, 0] [0, 1, 2, 3, 4, 8, 9] (by kernel_rfl) rfl rfl rfl rfl (pz x hok lb b0_0 b1_0 b2_0) ?_)
 rintro _ _ _ ⟨rfl, st, hI, rfl⟩
 refine aST ?_
 refine aNs (az ?_)
 rw [hL] at hI
 rw [hL]
 refine ae (aU rfl (ab 9 tk4 rfl rfl rfl) (aNn ?_))
 refine ah _ rfl (fun h1 => ?_) (fun h1 => ?_)
 ·skip
  have hce : fx x.kp.l L = some st.fa.1 := by unfold fx; rw [hI.tw, if_pos h1]; rfl
  refine az ?_
  refine aX [2] (by kernel_rfl) ?_
  show aB _ _ _ _ _ 3 #[false, false, false] _
  refine bV 0 rfl rfl (ab 8 tk34 rfl rfl rfl) ?_
  refine bV 1 rfl rfl (bJ rfl) ?_
  refine bM 2 rfl (by kernel_rfl) rfl rfl (aT 7 tk34 rfl rfl rfl rfl ?_)
  refine bST rfl ?_
  refine bD (by kernel_rfl) ?_
  refine av (aq (aK ?_))
  refine dZ [] [0, 1, 2, 3, 4, 5] rfl Tryz.results35 (cT rfl) (cv 7 tk34 rfl rfl rfl) ?_ (.inr rfl)
  exact ⟨rfl, st, st.fa.1, fun _ => none, hI, by rw [hce]; rfl, (fun p hp => by rw [hce] at hp; exact Option.some.inj hp), (fun h => by rw [hce] at h; cases h), rfl⟩
 ·skip
  have htw : ea x.kp.l L = none := by rw [hI.tw, if_neg (by rw [h1]; decide)]
  have hst0 : nb x.kp.l L [] (fun _ => none) st.fa := .start (by cases hb : st.fa.2 with | false => rfl | true => rw [hb] at h1; cases h1)
  have hlN : ∀ n, ((cn st.mN n).l).length ≤ 70 := fun n => by rw [hI.names]; have := kf (kp := x.kp.l) L n; omega
  refine au (av (az (aSR (aU rfl (aN (o := 0) tk101 rfl (.of (an 0 rfl)) rfl) (aU rfl (bq rfl) ?_)))))
  refine aU rfl (qFA (off := 7) rfl) ?_
  refine aU rfl (aN (o := 7) tk104 rfl (.of (an 1 rfl)) rfl) ?_
  refine aj rfl (ye 3 Tryz.underlying104 rfl rfl rfl (fun r6_4 N6_4 => ?_))
  refine aHK ?_
  refine aNn (aw ?_)
  refine aP [1, 3, 4, 5, 21] [2, 1, 0] [0, 1, 2, 3, 4, 5, 7, 8, 9] (fun (q : List ByteArray × (ByteArray → Option aD) × (aD × Bool)) s => nb x.kp.l L q.1 q.2.1 q.2.2 ∧ s = ⟨[(1, true, .pointer (some ⟨b0_0, 0, none⟩)), (3, true, .pointer (some ⟨b0_2, 0, none⟩)), (4, true, .pointer (some ⟨b1_0, 0, none⟩)), (5, true, .pointer (some ⟨b2_0, 0, none⟩)), (21, true, .pointer (some ⟨r6_4, 0, none⟩))], [At b0_0 0 [.v (.pointer (some ⟨lb, 0, none⟩))], At lb 0 x.row, x.ok],
    [dg x.ball cj slV st.mA, dS 34 2 aD.row st.mA, dg x.bch cj aD.val (chP x.kp.l L), ItR x.bnm r6_4 dK slV st.mN N6_4 q.1, dS 157 2 gO st.mN, dg x.bmn dK aD.val q.2.1, Box b0_2 34 [.int .i64 0, .int .i64 0], Box b1_0 34 q.2.2.1.vs, Box b2_0 4 [.bool q.2.2.2]]⟩) (fun q => N6_4 - q.1.length) rfl (⟨([], fun _ => none, st.fa), hst0, rfl⟩) ?_
  rintro ⟨seen, mM, fa⟩ s ⟨hM, rfl⟩
  dsimp only at hM
  refine aSR ?_
  refine aj rfl (zA 3 (kyT) rfl rfl rfl (fun hend7 => ?_) (fun ka7 va7 hm7 hns7 hlt7 => ?_))
  ·skip
   refine aU rfl (bc rfl rfl) (aNs ?_)
   refine ah _ rfl (fun h => absurd h (by decide)) (fun _ => ?_)
   refine aR (aS (aS (aY (av (az (az ?_))))))
   have hfin := nb.fin hM hA (fun n hn => sA hA (by
     rw [← hI.names n]
     unfold cn
     cases hc : st.mN n with
     | none => rfl
     | some v => exact (hn (hend7 n v hc)).elim))
   refine ur 3 rfl (fun J => ?_)
   refine ae (aU rfl (ab 8 tk4 rfl rfl rfl) (aNn ?_))
   refine ah _ rfl (fun h2 => ?_) (fun h2 => ?_)
   ·skip
    have hce : fx x.kp.l L = some fa.1 := by unfold fx; rw [htw, hfin.1, if_pos h2]; rfl
    refine az ?_
    refine aX [2] (by kernel_rfl) ?_
    show aB _ _ _ _ _ 3 #[false, false, false] _
    refine bV 0 rfl rfl (ab 7 tk34 rfl rfl rfl) ?_
    refine bV 1 rfl rfl (bJ rfl) ?_
    refine bM 2 rfl (by kernel_rfl) rfl rfl (aT 6 tk34 rfl rfl rfl rfl ?_)
    refine bST rfl ?_
    refine bD (by kernel_rfl) ?_
    refine av (aq (aK ?_))
    refine dZ [] [0, 1, 2, 3, 4, 5] rfl Tryz.results35 (cT rfl) (cv 6 tk34 rfl rfl rfl) ?_ (.inr rfl)
    exact ⟨rfl, st, fa.1, mM, hI, by rw [hce]; rfl, (fun p hp => by rw [hce] at hp; exact Option.some.inj hp), (fun h => by rw [hce] at h; cases h), rfl⟩
   ·skip
    have hce : fx x.kp.l L = none := by unfold fx; rw [htw, hfin.1, if_neg (by rw [h2]; decide)]; rfl
    refine au (av (az ?_))
    refine aX [2] (by kernel_rfl) ?_
    show aB _ _ _ _ _ 3 #[false, false, false] _
    refine bV 0 rfl rfl (ab 7 tk34 rfl rfl rfl) ?_
    refine bV 1 rfl rfl (bJ rfl) ?_
    refine bM 2 rfl (by kernel_rfl) rfl rfl (aT 6 tk34 rfl rfl rfl rfl ?_)
    refine bST rfl ?_
    refine bD (by kernel_rfl) ?_
    refine av (aq ?_)
    refine dZ [] [0, 1, 2, 3, 4, 5] rfl Tryz.results35 (cT rfl) (cv 6 tk34 rfl rfl rfl) ?_ (.inr rfl)
    exact ⟨rfl, st, fa.1, mM, hI, by rw [hce]; rfl, (fun p hp => by rw [hce] at hp; cases hp), (fun _ => hfin.2), rfl⟩
  ·skip
   refine aHK ?_
   refine aU rfl (bc rfl rfl) (aNs ?_)
   refine ah _ rfl (fun _ => ?_) (fun h => absurd h (by decide))
   refine au (av (aw (aSR (aU rfl (xQ 3 (kyT) rfl rfl (hm7)) (aU rfl (bc rfl rfl) (aU rfl (bc rfl rfl) (aA rfl (aA rfl (aNs ?_)))))))))
   have hg : cn st.mN ka7 = va7 := by unfold cn; rw [hm7]; rfl
   have hnm : va7.l = dU x.kp.l L ka7 := by rw [← hg]; exact hI.names ka7
   have hvl : va7.l.length ≤ 70 := by rw [← hg]; exact hlN ka7
   refine fP (row := gO) 4 ka7 rfl ?_
   rw [hg]
   refine ae (aA rfl (aNs (az (eb 34 2 ?_))))
   show awp _ _ _ _ ⟨_, _, [_, _, _, _, _, _, _, _, _, _, _]⟩
   refine ae (aM rfl (aU rfl (aZ Tryz.underlying159 rfl) (aM rfl (aNn (aw ?_)))))
   refine aP [1, 3, 4, 5, 6, 8, 21, 27, 28, 29] [2, 1, 0] [0, 1, 2, 3, 4, 5, 6, 7, 8, 9, 10] (fun (q : Nat × Value) s => q.1 ≤ va7.l.length ∧ s = ⟨[(1, true, .pointer (some ⟨b0_0, 0, none⟩)), (3, true, .pointer (some ⟨b0_2, 0, none⟩)), (4, true, .pointer (some ⟨b1_0, 0, none⟩)), (5, true, .pointer (some ⟨b2_0, 0, none⟩)), (6, true, .string ka7), (8, true, q.2), (21, true, .pointer (some ⟨r6_4, 0, none⟩)), (27, true, slV va7), (28, true, .int .i64 va7.l.length), (29, true, .int .i64 q.1)], [At b0_0 0 [.v (.pointer (some ⟨lb, 0, none⟩))], At lb 0 x.row, x.ok],
     [dg x.ball cj slV st.mA, dS 34 2 aD.row st.mA, dg x.bch cj aD.val (chP x.kp.l L), ItR x.bnm r6_4 dK slV st.mN N6_4 (ka7 :: seen), dS 157 2 gO (lM st.mN ka7), dg x.bmn dK aD.val mM, Box b0_2 34 [.int .i64 0, .int .i64 0], Box b1_0 34 fa.1.vs, Box b2_0 4 [.bool fa.2], bA (slV va7) 157 2 (va7.l.map gO), bA q.2 34 2 ((fy x.kp.l L (va7.l.take q.1)).map aD.row)]⟩) (fun q => va7.l.length - q.1) rfl (⟨(0, _), Nat.zero_le _, rfl⟩) ?_
   rintro ⟨j, v⟩ s ⟨hj, rfl⟩
   dsimp only at hj
   refine aSR (aU rfl (bt rfl rfl) (aNs ?_))
   refine ah _ rfl (fun h3 => ?_) (fun h3 => ?_)
   ·skip
    have hj' : j < va7.l.length := by simp at h3; omega
    obtain ⟨kk, hkk⟩ : ∃ kk, va7.l[j]? = some kk := ⟨_, List.getElem?_eq_getElem hj'⟩
    obtain ⟨ee, hee⟩ : ∃ ee, cd x.kp.l L kk = some ee := by
      cases hc : cd x.kp.l L kk with
      | some ee => exact ⟨ee, rfl⟩
      | none => exact ((eV.1 (by rw [← hnm]; exact List.mem_of_getElem? hkk)).1 (eG.1 hc)).elim
    have hmp := rf (kp := x.kp.l) L (va7.l.take j)
    rw [List.length_take] at hmp
    refine au (av (az (aw (aSR ?_))))
    refine aU rfl (dV 9 j el159 rfl rfl rfl rfl (by rw [List.length_map]; exact hj')) ?_
    refine aU rfl (ez 9 j 0 tk157 rfl rfl (aJ hkk) rfl rfl) ?_
    refine aj (q := true) rfl (bp (zs := [.string .empty, .string .empty]) (by kernel_rfl) rfl (fun b12_2 => ?_))
    refine aHN ?_
    refine aj rfl (aT 11 tk157 rfl rfl rfl rfl ?_)
    refine aHK ?_
    refine aNs ?_
    refine aX [7] (by kernel_rfl) ?_
    show aB _ _ _ _ _ 8 #[false, false, false, false, false, false, false, false] _
    refine bV 0 rfl rfl (aN (o := 0) tk101 rfl (.of (an 0 rfl)) rfl) ?_
    refine bV 1 rfl rfl (bq rfl) ?_
    refine bV 2 rfl rfl (qFA (off := 6) rfl) ?_
    refine bV 3 rfl rfl (aN (o := 6) tk103 rfl (.of (an 1 rfl)) rfl) ?_
    refine bV 4 rfl rfl (ab 11 tk157 rfl rfl rfl) ?_
    refine bV 5 rfl rfl ((gk (k := kk) (v0 := (⟨0, 0⟩ : aD)) 2 Tryz.underlying103 (kyK) (by kernel_rfl) rfl rfl rfl).castV (v' := aD.val ee.p) (congrArg aD.val (by unfold chP; rw [hee]; rfl))) ?_
    refine bM (q := true) 6 rfl (by kernel_rfl) rfl rfl (bp (zs := [.int .i64 0, .int .i64 0]) (by kernel_rfl) rfl (fun b13_6 => ?_))
    refine bST rfl ?_
    refine bM 7 rfl (by kernel_rfl) rfl rfl (aT 12 tk34 rfl rfl rfl rfl ?_)
    refine bST rfl ?_
    refine bD (by kernel_rfl) ?_
    refine av (aSR ?_)
    refine aU rfl (qFA (off := 1) rfl) ?_
    refine aU rfl (ab 11 tk9 rfl rfl rfl) (aU rfl (cZ rfl rfl) (aM rfl (aG rfl rfl (fun hc => aN (o := 0) tk101 rfl (.of (an 0 rfl)) rfl) (aG rfl rfl (fun hc => ab 12 tk34 rfl rfl rfl) ?_))))
    refine aG rfl rfl (fun hc => bw (by kernel_rfl) (aI (aa rfl hc) (aI (aa rfl hc) rfl)) (fun w S fp hst => (lv x lb ee (hin ee (dw hee).1)).quiet2 (an 1 rfl) (an 2 rfl) hst)) ?_
    refine aG rfl rfl (fun hc => ri (off := 2) (by kernel_rfl) (aa rfl hc) rfl) ?_
    refine aU rfl (ct rfl rfl (fun h => gf rfl h)) (aNn ?_)
    refine ah _ rfl (fun h4 => ?_) (fun h4 => ?_)
    ·skip
     have hc4 : kk.2 = .empty ∨ ee.s.main = true := by
       rw [Bool.or_eq_true, decide_eq_true_eq] at h4; exact h4
     have hmp2 : fy x.kp.l L (va7.l.take (j + 1)) = fy x.kp.l L (va7.l.take j) ++ [ee.p] := by
       rw [List.take_add_one, hkk, Option.toList_some, l6 L _ kk hee, if_pos hc4]
     refine ae (aM rfl (aU rfl (ab 12 tk34 rfl rfl rfl) ?_))
     refine aj (q := true) rfl (cG (zs := [.int .i64 0, .int .i64 0]) (l := [(0, .tmp 49)]) el158 (by kernel_rfl) (by decide) (by decide) (by decide) rfl rfl rfl (.more rfl (.v rfl (.v rfl .nil)) .nil) rfl rfl (fun v15_2 => ?_))
     refine aHN ?_
     refine aj rfl (cE 10 el158 rfl rfl rfl rfl (dH 13 el158 rfl (by simp)) (by first | assumption | simp) (by show ((fy x.kp.l L (va7.l.take j)).map aD.row).length + 1 ≤ _; rw [List.length_map]; omega) (((fy x.kp.l L (va7.l.take j)) ++ [ee.p]).length) (by show ((fy x.kp.l L (va7.l.take j)).map aD.row).length + 1 = _; rw [List.length_map, List.length_append]; rfl) (fun v15_3 c15_3 => ?_))
     refine aHK ?_
     refine aA rfl (cr (bu (av (ae ?_))))
     refine aU rfl (bf rfl rfl (by omega)) ?_
     refine aM rfl (aNn ?_)
     refine ⟨[1, 3, 4, 5, 6, 8, 21, 27, 28, 29], [2, 1, 0], [0, 1, 2, 3, 4, 5, 6, 7, 8, 9, 10], rfl, ?_⟩
     exact ⟨(j + 1, _), ⟨by dsimp only; omega, by dsimp only; rw [hmp2, List.map_append]; rfl⟩, by dsimp only; omega⟩
    ·skip
     have hc4 : ¬ (kk.2 = .empty ∨ ee.s.main = true) := by
       rw [← decide_eq_true_eq (p := kk.2 = .empty), ← Bool.or_eq_true]; exact fun h => by rw [show (decide (kk.2 = ByteArray.empty) || ee.s.main) = false from h4] at h; cases h
     have hmp2 : fy x.kp.l L (va7.l.take (j + 1)) = fy x.kp.l L (va7.l.take j) := by
       rw [List.take_add_one, hkk, Option.toList_some, l6 L _ kk hee, if_neg hc4, List.append_nil]
     refine au (bu (av (ae ?_)))
     refine aU rfl (bf rfl rfl (by omega)) ?_
     refine aM rfl (aNn ?_)
     refine ⟨[1, 3, 4, 5, 6, 8, 21, 27, 28, 29], [2, 1, 0], [0, 1, 2, 3, 4, 5, 6, 7, 8, 9, 10], rfl, ?_⟩
     exact ⟨(j + 1, _), ⟨by dsimp only; omega, by dsimp only; rw [hmp2]; rfl⟩, by dsimp only; omega⟩
   ·skip
    have hjl : j = va7.l.length := by simp at h3; omega
    have hmpl := rf (kp := x.kp.l) L va7.l
    dsimp only
    rw [hjl, List.take_length]
    refine aR (aS (aS (aY (av (aSR (aM rfl ?_))))))
    refine aj (q := false) rfl (bF [] [10] (by kernel_rfl) rfl rfl rfl rfl (uR v (fy x.kp.l L va7.l) (by omega)) ?_)
    rintro _ _ _ ⟨rfl, q, hqp, hqs, rfl⟩
    refine aST ?_
    refine aNs (az ?_)
    have hq : q = (cF x.kp.l L ka7).map (·.p) := pc hA (by rw [← hnm]; exact hqp) hqs
    refine ae (aM rfl (aU rfl (fG 10 Tryz.underlying158 rfl rfl) (aU rfl (du rfl rfl) (aNn ?_))))
    refine ah _ rfl (fun h5 => ?_) (fun h5 => ?_)
    ·skip
     obtain ⟨p1, hp1⟩ : ∃ p1, q[1]? = some p1 := ⟨_, List.getElem?_eq_getElem (by simp at h5; omega)⟩
     refine ae (aM rfl ?_)
     refine aU rfl (dV 10 1 el158 rfl rfl rfl rfl (by rw [List.length_map]; exact (List.getElem?_eq_some_iff.1 hp1).1)) ?_
     refine aU rfl (ez 10 1 0 tk34 rfl rfl (aJ hp1) rfl rfl) ?_
     refine aj (q := false) rfl (bF [] [7, 8] (by kernel_rfl) rfl rfl rfl rfl (iZ b1_0 b2_0 fa p1) ?_)
     rintro _ _ _ ⟨rfl, rfl⟩
     refine aST ?_
     refine aNs (pd (row := gO) 4 9 ka7 va7 rfl rfl rfl rfl (gP _ _) rfl ?_)
     rw [iO, nY hm7]
     refine ae (aM rfl (aU rfl (fG 10 Tryz.underlying158 rfl rfl) (aU rfl (du rfl rfl) (aNn ?_))))
     refine ah _ rfl (fun h6 => ?_) (fun h6 => ?_)
     ·skip
      obtain ⟨p0, hp0⟩ : ∃ p0, q[0]? = some p0 := ⟨_, List.getElem?_eq_getElem (by simp at h6; omega)⟩
      refine aX [8] (by kernel_rfl) ?_
      show aB _ _ _ _ _ 9 #[false, false, false, false, false, false, false, false, false] _
      refine bV 0 rfl rfl (aN (o := 0) tk101 rfl (.of (an 0 rfl)) rfl) ?_
      refine bV 1 rfl rfl (bq rfl) ?_
      refine bV 2 rfl rfl (qFA (off := 8) rfl) ?_
      refine bV 3 rfl rfl (aN (o := 8) tk105 rfl (.of (an 1 rfl)) rfl) ?_
      refine bV 4 rfl rfl (ar rfl) ?_
      refine bV 5 rfl rfl (ar rfl) ?_
      refine bV 6 rfl rfl (dV 10 0 el158 rfl rfl rfl rfl (by rw [List.length_map]; exact (List.getElem?_eq_some_iff.1 hp0).1)) ?_
      refine bV 7 rfl rfl (ez 10 0 0 tk34 rfl rfl (aJ hp0) rfl rfl) ?_
      refine bM 8 rfl (by kernel_rfl) rfl rfl (cY (k := ka7) (v := p0) 5 Tryz.underlying105 (kyT) rfl rfl rfl rfl ?_)
      refine bST rfl ?_
      refine bD (by kernel_rfl) ?_
      refine bu (av ?_)
      refine ⟨[1, 3, 4, 5, 21], [2, 1, 0], [0, 1, 2, 3, 4, 5, 6, 7, 8], rfl, ?_⟩
      rw [hq, List.getElem?_map, Option.map_eq_some_iff] at hp0 hp1
      obtain ⟨d0, hd0, rfl⟩ := hp0
      obtain ⟨d1, hd1, rfl⟩ := hp1
      exact ⟨(ka7 :: seen, cC mM ka7 d0.p, dO fa d1.p), ⟨hM.step hns7 (by rw [hd0]) (by rw [hd1]), rfl⟩, by dsimp only at hlt7 ⊢; rw [List.length_cons]; omega⟩
     ·skip
      exfalso; have := (List.getElem?_eq_some_iff.1 hp1).1; simp at h6; rw [h6] at this; simp at this
    ·skip
     refine au (av (az (pd (row := gO) 4 9 ka7 va7 rfl rfl rfl rfl (gP _ _) rfl ?_)))
     rw [iO, nY hm7]
     refine ae (aM rfl (aU rfl (fG 10 Tryz.underlying158 rfl rfl) (aU rfl (du rfl rfl) (aNn ?_))))
     refine ah _ rfl (fun h7 => ?_) (fun h7 => ?_)
     ·skip
      obtain ⟨p0, hp0⟩ : ∃ p0, q[0]? = some p0 := ⟨_, List.getElem?_eq_getElem (by simp at h7; omega)⟩
      refine aX [8] (by kernel_rfl) ?_
      show aB _ _ _ _ _ 9 #[false, false, false, false, false, false, false, false, false] _
      refine bV 0 rfl rfl (aN (o := 0) tk101 rfl (.of (an 0 rfl)) rfl) ?_
      refine bV 1 rfl rfl (bq rfl) ?_
      refine bV 2 rfl rfl (qFA (off := 8) rfl) ?_
      refine bV 3 rfl rfl (aN (o := 8) tk105 rfl (.of (an 1 rfl)) rfl) ?_
      refine bV 4 rfl rfl (ar rfl) ?_
      refine bV 5 rfl rfl (ar rfl) ?_
      refine bV 6 rfl rfl (dV 10 0 el158 rfl rfl rfl rfl (by rw [List.length_map]; exact (List.getElem?_eq_some_iff.1 hp0).1)) ?_
      refine bV 7 rfl rfl (ez 10 0 0 tk34 rfl rfl (aJ hp0) rfl rfl) ?_
      refine bM 8 rfl (by kernel_rfl) rfl rfl (cY (k := ka7) (v := p0) 5 Tryz.underlying105 (kyT) rfl rfl rfl rfl ?_)
      refine bST rfl ?_
      refine bD (by kernel_rfl) ?_
      refine bu (av ?_)
      refine ⟨[1, 3, 4, 5, 21], [2, 1, 0], [0, 1, 2, 3, 4, 5, 6, 7, 8], rfl, ?_⟩
      have hn1 : (cF x.kp.l L ka7)[1]? = none := List.getElem?_eq_none (by rw [hq, List.length_map] at h5; simp at h5; omega)
      rw [hq, List.getElem?_map, Option.map_eq_some_iff] at hp0
      obtain ⟨d0, hd0, rfl⟩ := hp0
      exact ⟨(ka7 :: seen, cC mM ka7 d0.p, fa), ⟨hM.step hns7 (by rw [hd0]) (by rw [hn1]), rfl⟩, by dsimp only at hlt7 ⊢; rw [List.length_cons]; omega⟩
     ·skip
      refine au (bu (av ?_))
      refine ⟨[1, 3, 4, 5, 21], [2, 1, 0], [0, 1, 2, 3, 4, 5, 6, 7, 8], rfl, ?_⟩
      have hn1 : (cF x.kp.l L ka7)[1]? = none := List.getElem?_eq_none (by rw [hq, List.length_map] at h5; simp at h5; omega)
      have hn0 : (cF x.kp.l L ka7)[0]? = none := List.getElem?_eq_none (by rw [hq, List.length_map] at h7; simp at h7; rw [h7]; simp)
      exact ⟨(ka7 :: seen, mM, fa), ⟨hM.step hns7 (by rw [hn0]) (by rw [hn1]), rfl⟩, by dsimp only at hlt7 ⊢; rw [List.length_cons]; omega⟩
end Go.Proofs.YtgmiihmahaahiaaGreatDoor

namespace Go.Proofs.YtgmiihmahaahiaaGreatDoor
open Go.RowKit Go.Lp Go.Sy
open Go.Proofs.Tryz
attribute [local irreducible] aL aB awp aC fwp
def gD (n : ByteArray) (v : Int) (d : Dfn) : Int := if d.s.name = n ∧ d.s.bind ≠ 0 then max v d.s.vis else v
theorem oC (L : List Dfn) (d : Dfn) (n : ByteArray) : fB (L ++ [d]) n = gD n (fB L n) d := by unfold fB gD; rw [List.foldl_append]; rfl
theorem pC (l : Sl ax) (n : ByteArray) : Con Tryz.prog 16 [l.val, .string n] [ShF ax.row l, bP ax.ok l.l] [] (fun r _ _ => r = .int .i64 (fB (aW l.l) n)) := by
 refine Con.enter Tryz.func16 rfl (by simp [Tryz.ntmps16]) ?_
 show awp _ _ _ _ ⟨[(0, true, _), (1, true, _)], _, _⟩
 refine bd (.of (an 0 rfl)) (fun hlen => ?_)
 refine aSR (aA rfl (aNn (aSR (aA rfl (aNs (aSR (aM rfl (aU rfl (aZ Tryz.underlying22 rfl) (aM rfl ?_)))))))))
 refine aNn (aw (aP [1, 5, 10, 11, 12] [1, 0] [] (fun (i : Nat) st => i ≤ l.l.length ∧ st = ⟨[(1, true, .string n), (5, true, .int .i64 (fB (bQ l.l i) n)), (10, true, l.val), (11, true, .int .i64 l.l.length), (12, true, .int .i64 i)], [ShF ax.row l, bP ax.ok l.l], []⟩) (fun i => l.l.length - i) rfl (⟨0, Nat.zero_le _, rfl⟩) ?_))
 rintro i st ⟨hi, rfl⟩
 refine aSR (aU rfl (bt rfl rfl) (aNs ?_))
 refine ah _ rfl (fun h1 => ?_) (fun h1 => ?_)
 ·skip
  have hi' : i < l.l.length := by simp at h1; omega
  have ho := bN hi'
  generalize hoo : elt l.l (i : Int) = o at ho
  refine au (av (az (aw (aSR ?_))))
  refine ck true rfl rfl (fun _ => ai Tryz.underlying22 tk61 rfl ((.of (an 0 rfl))) rfl (aJ ho) rfl rfl) (fun h => absurd h (by decide)) (fun ⟨b4_0, o4_0⟩ => ?_)
  refine aU rfl (aF (o := 0) tk61 rfl (an 0 rfl) rfl rfl) ?_
  refine aj (q := true) rfl (bp (zs := [.string .empty, .slice none 0 0, .slice none 0 0, .slice none 0 0, .slice none 0 0, .slice none 0 0, .slice none 0 0, .slice none 0 0, .slice none 0 0, .slice none 0 0, .slice none 0 0]) (by kernel_rfl) rfl (fun b4_2 => ?_))
  refine aHN ?_
  refine aj rfl (aT 0 tk61 rfl rfl rfl rfl ?_)
  refine aHK ?_
  refine aNs ?_
  refine bd (ax.f_syms (Ent.all (.of (an 2 rfl)) ho)) (fun hlen2 => ?_)
  refine ae ?_
  refine aU rfl (qFA (off := 2) rfl) ?_
  refine aU rfl (ab 0 tk51 rfl rfl rfl) (aU rfl (aZ Tryz.underlying51 rfl) (aM rfl (aNn (aw ?_))))
  refine aP [1, 5, 10, 11, 12, 17, 18, 19] [1, 0] [] (fun (k : Nat) st => k ≤ o.syms.l.length ∧ st = ⟨[(1, true, .string n), (5, true, .int .i64 (fB (bQ l.l i ++ cu (i : Int) (o.syms.l.take k)) n)), (10, true, l.val), (11, true, .int .i64 l.l.length), (12, true, .int .i64 i), (17, true, o.syms.val), (18, true, .int .i64 o.syms.l.length), (19, true, .int .i64 k)], [ShF ax.row l, bP ax.ok l.l], []⟩) (fun k => o.syms.l.length - k) rfl (⟨0, Nat.zero_le _, by rw [List.take_zero, show cu (i : Int) [] = [] from rfl, List.append_nil]; rfl⟩) ?_
  rintro k st ⟨hk, rfl⟩
  refine aSR (aU rfl (bt rfl rfl) (aNs ?_))
  refine ah _ rfl (fun h2 => ?_) (fun h2 => ?_)
  ·skip
   have hk' : k < o.syms.l.length := by simp at h2; omega
   obtain ⟨s, hs'⟩ : ∃ s, o.syms.l[k]? = some s := ⟨_, List.getElem?_eq_getElem hk'⟩
   have hstep : fB (bQ l.l i ++ cu (i : Int) (o.syms.l.take (k + 1))) n = gD n (fB (bQ l.l i ++ cu (i : Int) (o.syms.l.take k)) n) ⟨⟨(i : Int), (k : Int)⟩, s⟩ := by
     rw [dz hs', ← List.append_assoc, oC]
   refine au (av (az (aw (aSR ?_))))
   refine ck true rfl rfl (fun _ => ai Tryz.underlying51 tk63 rfl ((ax.f_syms (Ent.all (.of (an 1 rfl)) ho))) rfl (aJ hs') rfl rfl) (fun h => absurd h (by decide)) (fun ⟨b7_0, o7_0⟩ => ?_)
   refine aU rfl (aF (o := 0) tk63 rfl (an 0 rfl) rfl rfl) ?_
   refine aj (q := true) rfl (bp (zs := [.string .empty, .string .empty, .bool false, .int .i64 0, .int .i64 0, .int .i64 0, .int .i64 0, .int .i64 0, .int .i64 0, .int .i64 0]) (by kernel_rfl) rfl (fun b7_2 => ?_))
   refine aHN ?_
   refine aj rfl (aT 0 tk63 rfl rfl rfl rfl ?_)
   refine aHK ?_
   refine aNn (aSR ?_)
   refine aU rfl (qFA (off := 0) rfl) ?_
   refine aU rfl (ab 0 tk9 rfl rfl rfl) (aM rfl (aU rfl (cZ rfl rfl) (aM rfl ?_)))
   refine aG rfl rfl (fun hc => qFA (off := 3) rfl) ?_
   refine aG rfl rfl (fun hc => ab 0 tk3 (aa rfl hc) rfl rfl) (aG rfl rfl (fun hc => cN (aa rfl hc) rfl) (aU rfl (bn rfl rfl (fun h => gt rfl h)) (aNn ?_)))
   refine ah _ rfl (fun h3 => ?_) (fun h3 => ?_)
   ·skip
    have hc3 : s.name = n ∧ s.bind ≠ 0 := by simpa using h3
    refine ae (aM rfl ?_)
    refine aU rfl (qFA (off := 4) rfl) ?_
    refine aU rfl (ab 0 tk3 rfl rfl rfl) (aU rfl (yV rfl rfl) (aA rfl (cr (bu (av (ae ?_))))))
    refine aU rfl (bf rfl rfl (by omega)) ?_
    refine aM rfl (aNn ?_)
    refine ⟨[1, 5, 10, 11, 12, 17, 18, 19], [1, 0], [], rfl, ?_⟩
    exact ⟨k + 1, ⟨by omega, by rw [hstep]; unfold gD; rw [if_pos hc3]; rfl⟩, by omega⟩
   ·skip
    have hc3 : ¬ (s.name = n ∧ s.bind ≠ 0) := by simpa using h3
    refine au (bu (av (ae ?_)))
    refine aU rfl (bf rfl rfl (by omega)) ?_
    refine aM rfl (aNn ?_)
    refine ⟨[1, 5, 10, 11, 12, 17, 18, 19], [1, 0], [], rfl, ?_⟩
    exact ⟨k + 1, ⟨by omega, by rw [hstep]; unfold gD; rw [if_neg hc3]; rfl⟩, by omega⟩
  ·skip
   refine aR (aS (aS (aY (bu (av (ae ?_))))))
   refine aU rfl (bf rfl rfl (by omega)) ?_
   refine aM rfl (aNn ?_)
   refine ⟨[1, 5, 10, 11, 12], [1, 0], [], rfl, ?_⟩
   rw [List.take_of_length_le (by simp at h2; omega)]
   exact ⟨i + 1, ⟨by omega, by rw [cq, hoo]; rfl⟩, by omega⟩
 ·skip
  refine aR (aS (aS (aY (av (aSR (aM rfl (aA rfl (aNn (aq ?_)))))))))
  refine aV [] [] rfl Tryz.results16 rfl ?_ (.inr rfl)
  rw [show i = l.l.length by simp at h1; omega]; rfl
def br.fin (x : br) (L : List Dfn) (st : CS) (mM : ByteArray → Option aD) : Per :=
 cx (ShM x.ball cj slV st.mA) (cx (ShM x.bch cj aD.val (chP x.kp.l L)) (cx (ShM x.bnm dK slV st.mN) (cx (ShM x.bmn dK aD.val mM) (Go.Sy.fL gO st.mN))))
section
variable {ps : List Per} {x : br} {L : List Dfn} {st : CS} {mM : ByteArray → Option aD} (h : Ent ps (x.fin L st mM))
include h
theorem br.g_all : Ent ps (ShM x.ball cj slV st.mA) := h.left
theorem br.g_ch : Ent ps (ShM x.bch cj aD.val (chP x.kp.l L)) := h.right.left
theorem br.g_nm : Ent ps (ShM x.bnm dK slV st.mN) := h.right.right.left
theorem br.g_mn : Ent ps (ShM x.bmn dK aD.val mM) := h.right.right.right.left
theorem br.g_keys : Ent ps (Go.Sy.fL gO st.mN) := h.right.right.right.right
end
structure kP (x : br) (L : List Dfn) (st : CS) (mM : ByteArray → Option aD) : Prop where
 flat : L = aW x.objs.l
 inv : hJ x.kp.l L st
 mains : ∀ n, mM n = (cF x.kp.l L n).head?.map (·.p)
 twice : dQ x.kp.l L = none
theorem kP.asc {x : br} {L : List Dfn} {st : CS} {mM : ByteArray → Option aD} (h : kP x L st mM) : Asc L := by rw [h.flat]; exact ed _ _
theorem x7 (x : br) (hok : ew x.objs.l x.kp.l) (lb : Nat) (L : List Dfn) (st : CS) (mM : ByteArray → Option aD) (hF : kP x L st mM) (s : bg) (e : Dfn) (he : e ∈ L) : Con Tryz.prog 91 [.pointer (some ⟨lb, 0, none⟩), s.val, e.p.val] [At lb 0 x.row, x.ok, x.fin L st mM] [] (fun r _ _ => r = .int .i64 (gQ x.kp.l L s e)) := by
 have hin : InD x.objs.l e := by rw [← i1, ← hF.flat]; exact he
 have hl : ((st.mA e.key).getD ⟨none, 0, []⟩).l.length = (db x.kp.l L e.key).length := by
   have := congrArg List.length (hF.inv.all e.key)
   rw [List.length_map] at this; exact this
 refine Con.enter Tryz.func91 rfl (by simp [Tryz.ntmps91]) ?_
 show awp _ _ _ _ ⟨[(0, true, _), (1, true, _), (2, true, _)], _, _⟩
 refine aSR ?_
 refine aj (q := true) rfl (bI rfl rfl rfl (fun b0_0 => ?_))
 refine aHN ?_
 refine aj (q := true) rfl (bI rfl rfl rfl (fun b0_1 => ?_))
 refine aHN ?_
 refine aA rfl (aNn (aSR (aM rfl (aU rfl (ab 1 tk34 rfl rfl rfl) ?_))))
 refine aU rfl (bw (by kernel_rfl) rfl (fun w S fp hst => (lv x lb e hin).quiet2 (an 0 rfl) (an 1 rfl) hst)) ?_
 refine aj (q := true) rfl (bp (zs := [.string .empty, .string .empty, .bool false, .int .i64 0, .int .i64 0, .int .i64 0, .int .i64 0, .int .i64 0, .int .i64 0, .int .i64 0]) (by kernel_rfl) rfl (fun b1_3 => ?_))
 refine aHN ?_
 refine aj rfl (aT 2 tk63 rfl rfl rfl rfl ?_)
 refine aHK ?_
 refine aNs (aw (aSR ?_))
 refine aU rfl (qFA (off := 3) rfl) ?_
 refine aU rfl (ab 2 tk3 rfl rfl rfl) (aU rfl (bB rfl rfl) (aA rfl (aNn ?_)))
 refine ah _ rfl (fun h1 => ?_) (fun h1 => ?_)
 ·skip
  have c1 : e.s.bind = 3 := by simpa using h1
  refine aSR (aA rfl (aNn (aq (bj (aK ?_)))))
  refine aV [] [] rfl Tryz.results91 rfl ?_ (.inr rfl)
  unfold gQ; rw [if_pos c1]
 ·skip
  have c1 : ¬ e.s.bind = 3 := by simpa using h1
  refine aSR ?_
  refine aU rfl (qFA (off := 1) rfl) ?_
  refine aU rfl (ab 2 tk9 rfl rfl rfl) ?_
  refine aU rfl (qFA (off := 1) rfl) ?_
  refine aU rfl (ab 0 tk9 rfl rfl rfl) (aU rfl (fH rfl rfl) (aA rfl (aNn ?_)))
  refine ah _ rfl (fun h2 => ?_) (fun h2 => ?_)
  ·skip
   have c2 : e.s.version ≠ s.version := by simpa using h2
   refine aSR (aA rfl (aNn (aq (bj (aK ?_)))))
   refine aV [] [] rfl Tryz.results91 rfl ?_ (.inr rfl)
   unfold gQ; rw [if_neg c1, if_pos c2]
  ·skip
   have c2 : ¬ e.s.version ≠ s.version := by simpa using h2
   refine az ?_
   refine aX [] (by kernel_rfl) ?_
   show aB _ _ _ _ _ 13 #[false, false, false, false, false, false, false, false, false, false, false, false, false] _
   refine bV 0 rfl rfl (ar rfl) ?_
   refine bV 1 rfl rfl (bq rfl) ?_
   refine bV 2 rfl rfl (qFA (off := 5) rfl) ?_
   refine bV 3 rfl rfl (aN (o := 5) tk102 rfl (.of (an 0 rfl)) rfl) ?_
   refine bV 4 rfl rfl (qFA (off := 0) rfl) ?_
   refine bV 5 rfl rfl (ab 2 tk9 rfl rfl rfl) ?_
   refine bV 6 rfl rfl (qFA (off := 1) rfl) ?_
   refine bV 7 rfl rfl (ab 2 tk9 rfl rfl rfl) ?_
   refine bV 8 rfl rfl (cU (l := [(0, .tmp 27), (1, .tmp 29)]) (zs := [.string .empty, .string .empty]) (pl := [(0, 1), (1, 1)]) (by kernel_rfl) (by kernel_rfl) (by kernel_rfl) rfl rfl rfl) ?_
   refine bV 9 rfl rfl (oQ (k := e.key) (v0 := (⟨none, 0, []⟩ : Sl aD)) Tryz.underlying102 (kyK) (by kernel_rfl) rfl rfl ((br.g_all (.of (an 2 rfl))))) ?_
   refine bV 10 rfl rfl (aZ Tryz.underlying158 rfl) ?_
   refine bV 11 rfl rfl (bB rfl rfl) ?_
   refine bV 12 rfl rfl (bJ rfl) ?_
   refine bD (by kernel_rfl) ?_
   refine av ?_
   refine ah _ rfl (fun h3 => ?_) (fun h3 => ?_)
   ·skip
    have c3 : (db x.kp.l L e.key).length = 1 := by
      have := of_decide_eq_true h3; rw [hl] at this; omega
    refine aSR (aA rfl (aNn (aq (bj (aK ?_)))))
    refine aV [] [] rfl Tryz.results91 rfl ?_ (.inr rfl)
    unfold gQ; rw [if_neg c1, if_neg c2, if_pos c3]
   ·skip
    have c3 : ¬ (db x.kp.l L e.key).length = 1 := by
      have := of_decide_eq_false h3; rw [hl] at this; omega
    refine aSR ?_
    refine aU rfl (qFA (off := 3) rfl) ?_
    refine aU rfl (ab 2 tk3 rfl rfl rfl) (aU rfl (bB rfl rfl) (aA rfl (aNn ?_)))
    refine ah _ rfl (fun h4 => ?_) (fun h4 => ?_)
    ·skip
     have c4 : e.s.bind = 1 := by simpa using h4
     refine aSR (aA rfl (aNn (aq (bj (aK ?_)))))
     refine aV [] [] rfl Tryz.results91 rfl ?_ (.inr rfl)
     unfold gQ; rw [if_neg c1, if_neg c2, if_neg c3, if_pos c4]
    ·skip
     have c4 : ¬ e.s.bind = 1 := by simpa using h4
     refine au (bu (av (aSR (aA rfl (aNn (aq ?_))))))
     refine aV [] [] rfl Tryz.results91 rfl ?_ (.inr rfl)
     unfold gQ; rw [if_neg c1, if_neg c2, if_neg c3, if_neg c4]
end Go.Proofs.YtgmiihmahaahiaaGreatDoor

namespace Go.Proofs.YtgmiihmahaahiaaGreatDoor
open Go.RowKit Go.Lp Go.Sy
open Go.Proofs.Tryz
attribute [local irreducible] aL aB awp aC fwp
theorem pX (x : br) (a b : ByteArray) (SV : ByteArray → ByteArray → Bool) (hSV : ∀ p q, SV p q = true ↔ Srv x.vs.l p q) : Con Tryz.prog 22 [x.vs.val, .string a, .string b] [x.ok] [] fun r _ _ => r = .bool (SV a b) :=
 (mx x.vs a b SV hSV).pre fun p hp => by
   simp only [List.mem_cons, List.not_mem_nil, or_false] at hp
   rcases hp with rfl | rfl
   · exact br.f_vs (.of (an 0 rfl))
   · exact br.f_vsA (.of (an 0 rfl))
structure iv (kp : List (Sl Bool)) (L : List Dfn) (SV : ByteArray → ByteArray → Bool) (v : ByteArray) (ks : List cW) (fa : aD × Bool) : Prop where
 tw : fa.2 = true → ∃ k ∈ ks, ∃ e, cd kp L k = some e ∧ SV k.2 v = true ∧ fa.1 = e.p
 lo : ∀ k ∈ ks, ∀ e, cd kp L k = some e → SV k.2 v = true → fa.2 = true ∧ ¬ ltC e.p fa.1
section
variable {kp : List (Sl Bool)} {L : List Dfn} {SV : ByteArray → ByteArray → Bool} {v : ByteArray} {ks : List cW} {fa : aD × Bool}
theorem iv.start (p : aD) : iv kp L SV v [] (p, false) := ⟨fun h => (by cases h), fun _ h => by cases h⟩
theorem iv.hit (h : iv kp L SV v ks fa) {k : cW} {e : Dfn} (he : cd kp L k = some e) (hs : SV k.2 v = true) : iv kp L SV v (ks ++ [k]) (dO fa e.p) where
 tw hb := by
   unfold dO at hb ⊢
   split
   · exact ⟨k, by simp, e, he, hs, rfl⟩
   · rename_i hno
     rw [if_neg hno] at hb
     obtain ⟨k2, h1, h2⟩ := h.tw hb
     exact ⟨k2, List.mem_append_left _ h1, h2⟩
 lo k2 hk e2 he2 hs2 := by
   rcases List.mem_append.1 hk with hk | hk
   · obtain ⟨h1, h2⟩ := h.lo k2 hk e2 he2 hs2
     unfold dO
     split
     · rename_i hc
       refine ⟨rfl, fun hlt => ?_⟩
       rcases hc with hc | hc
       · rw [h1] at hc; cases hc
       · exact h2 (er hlt hc)
     · exact ⟨h1, h2⟩
   · rw [List.mem_singleton.1 hk, he] at he2
     obtain rfl := Option.some.inj he2
     unfold dO
     split
     · exact ⟨rfl, dR _⟩
     · rename_i hno
       refine ⟨?_, fun hlt => hno (.inr hlt)⟩
       cases hb3 : fa.2 with
       | true => rfl
       | false => exact (hno (.inl hb3)).elim
theorem iv.miss (h : iv kp L SV v ks fa) {k : cW} (hs : ¬ SV k.2 v = true) : iv kp L SV v (ks ++ [k]) fa where
 tw hb := by
   obtain ⟨k2, h1, h2⟩ := h.tw hb
   exact ⟨k2, List.mem_append_left _ h1, h2⟩
 lo k2 hk e2 he2 hs2 := by
   rcases List.mem_append.1 hk with hk | hk
   · exact h.lo k2 hk e2 he2 hs2
   · rw [List.mem_singleton.1 hk] at hs2; exact (hs hs2).elim
theorem iv.fin {n : ByteArray} (h : iv kp L SV v (dU kp L n) fa) (hA : Asc L) : match L.find? fun d => decide (d.s.name = n) && (fD kp L d && SV d.s.version v) with
   | some d => fa.2 = true ∧ fa.1 = d.p
   | none => fa.2 = false := by
 have pred : ∀ k ∈ dU kp L n, ∀ e, cd kp L k = some e → SV k.2 v = true → e ∈ L ∧ (decide (e.s.name = n) && (fD kp L e && SV e.s.version v)) = true := fun k hk e he hs => by
   obtain ⟨m1, _, m3⟩ := dw he
   refine ⟨m1, ?_⟩
   have h1 : e.s.name = n := by rw [← (eV.1 hk).2, ← m3]
   have h2 : SV e.s.version v = true := by rw [show e.s.version = k.2 from congrArg Prod.snd m3]; exact hs
   simp [h1, h2, kh hA he]
 cases hf : L.find? fun d => decide (d.s.name = n) && (fD kp L d && SV d.s.version v) with
 | none =>
   rw [List.find?_eq_none] at hf
   dsimp only
   cases hb : fa.2 with
   | false => rfl
   | true =>
     obtain ⟨k, hk, e, he, hs, _⟩ := h.tw hb
     obtain ⟨m1, m2⟩ := pred k hk e he hs
     exact (hf e m1 m2).elim
 | some d =>
   have h1 := List.find?_some hf
   have hm := List.mem_of_find?_eq_some hf
   simp only [Bool.and_eq_true, decide_eq_true_eq] at h1
   have hc := (gp hA hm).1 h1.2.1
   have hk : d.key ∈ dU kp L n := eV.2 ⟨fun h0 => (by rw [← eG (kp := kp)] at h0; rw [h0] at hc; cases hc), h1.1⟩
   obtain ⟨g1, g2⟩ := h.lo d.key hk d hc h1.2.2
   refine ⟨g1, ?_⟩
   obtain ⟨k, hk2, e, he, hs, hp⟩ := h.tw g1
   obtain ⟨m1, m2⟩ := pred k hk2 e he hs
   rcases find?_asc hA m1 m2 hf with hd | hd
   · rw [hp, hd]
   · rw [← hp] at hd; exact (g2 hd).elim
end
theorem wH (x : br) (hok : ew x.objs.l x.kp.l) (lb : Nat) (L : List Dfn) (st : CS) (mM : ByteArray → Option aD) (hF : kP x L st mM) (SV : ByteArray → ByteArray → Bool) (hSV : ∀ p q, SV p q = true ↔ Srv x.vs.l p q) (n v : ByteArray) :
   Con Tryz.prog 90 [.pointer (some ⟨lb, 0, none⟩), cj (n, v)] [At lb 0 x.row, x.ok, x.fin L st mM] [] (fun r ps hp => ps = [] ∧ hp = [] ∧ ∃ p : aD, r = .tuple #[p.val, .bool (dI x.kp.l L SV n v).isSome] ∧ ∀ e, dI x.kp.l L SV n v = some e → p = e.p) := by
 have hlN : ((cn st.mN n).l).length ≤ 70 := by
   rw [hF.inv.names]
   have := kf (kp := x.kp.l) L n
   have h2 := gW hok
   rw [← hF.flat] at h2; omega
 refine Con.enter Tryz.func90 rfl (by simp [Tryz.ntmps90]) ?_
 show awp _ _ _ _ ⟨[(0, true, _), (1, true, _)], _, _⟩
 refine aSR ?_
 refine aj (q := true) rfl (bI rfl rfl rfl (fun b0_0 => ?_))
 refine aHN ?_
 refine aj (q := true) rfl (bp (zs := [.int .i64 0, .int .i64 0]) (by kernel_rfl) rfl (fun b0_1 => ?_))
 refine aHN ?_
 refine aA rfl (aNs (aSR ?_))
 refine aU rfl (qFA (off := 1) rfl) ?_
 refine aU rfl (ab 0 tk9 rfl rfl rfl) (aU rfl (cZ rfl rfl) (aNn ?_))
 refine ah _ rfl (fun h1 => ?_) (fun h1 => ?_)
 ·skip
  have c1 : v = .empty := of_decide_eq_true h1
  refine az ?_
  refine aX [11] (by kernel_rfl) ?_
  show aB _ _ _ _ _ 13 #[false, false, false, false, false, false, false, false, false, false, false, false, false] _
  refine bV 0 rfl rfl (ar rfl) ?_
  refine bV 1 rfl rfl (bq rfl) ?_
  refine bV 2 rfl rfl (qFA (off := 8) rfl) ?_
  refine bV 3 rfl rfl (aN (o := 8) tk105 rfl (.of (an 0 rfl)) rfl) ?_
  refine bV 4 rfl rfl (qFA (off := 0) rfl) ?_
  refine bV 5 rfl rfl (ab 0 tk9 rfl rfl rfl) ?_
  refine bV 6 rfl rfl (j0 (k := n) (v0 := (⟨0, 0⟩ : aD)) Tryz.underlying105 (kyT) (by kernel_rfl) rfl rfl ((br.g_mn (.of (an 2 rfl))))) ?_
  refine bV 7 rfl rfl (ar rfl) ?_
  refine bV 8 rfl rfl (bc rfl rfl) ?_
  refine sx 9 rfl (by kernel_rfl) true rfl rfl (fun _ => bc rfl rfl) ?_
  refine bM (q := true) 10 rfl (by kernel_rfl) rfl rfl (bp (zs := [.int .i64 0, .int .i64 0]) (by kernel_rfl) rfl (fun b2_10 => ?_))
  refine bST rfl ?_
  refine bM 11 rfl (by kernel_rfl) rfl rfl (aT 2 tk34 rfl rfl rfl rfl ?_)
  refine bST rfl ?_
  refine bV 12 rfl rfl (bJ rfl) ?_
  refine bD (by kernel_rfl) ?_
  refine av (aSR (aU rfl (ab 2 tk34 rfl rfl rfl) (aM rfl ?_)))
  refine aj rfl (aT 1 tk34 rfl rfl rfl rfl ?_)
  refine aHK ?_
  refine aA rfl (aNn (aq (aK ?_)))
  refine dZ [] [] rfl Tryz.results90 (cv 1 tk34 rfl rfl rfl) (cT rfl) ?_ (.inr rfl)
  have hfr : dI x.kp.l L SV n v = (cF x.kp.l L n).head? := by unfold dI; rw [if_pos c1]
  refine ⟨rfl, rfl, (mM n).getD ⟨0, 0⟩, ?_, fun e he => ?_⟩
  · rw [hfr, hF.mains]; cases (cF x.kp.l L n).head? <;> rfl
  · rw [hF.mains, ← hfr, he]; rfl
 ·skip
  have c1 : ¬ v = .empty := of_decide_eq_false h1
  refine au (av (az (az ?_)))
  refine aX [10] (by kernel_rfl) ?_
  show aB _ _ _ _ _ 12 #[false, false, false, false, false, false, false, false, false, false, false, false] _
  refine bV 0 rfl rfl (ar rfl) ?_
  refine bV 1 rfl rfl (bq rfl) ?_
  refine bV 2 rfl rfl (qFA (off := 6) rfl) ?_
  refine bV 3 rfl rfl (aN (o := 6) tk103 rfl (.of (an 0 rfl)) rfl) ?_
  refine bV 4 rfl rfl (ab 0 tk157 rfl rfl rfl) ?_
  refine bV 5 rfl rfl (j0 (k := (n, v)) (v0 := (⟨0, 0⟩ : aD)) Tryz.underlying103 (kyK) (by kernel_rfl) rfl rfl ((br.g_ch (.of (an 2 rfl))))) ?_
  refine bV 6 rfl rfl (ar rfl) ?_
  refine bV 7 rfl rfl (bc rfl rfl) ?_
  refine sx 8 rfl (by kernel_rfl) true rfl rfl (fun _ => bc rfl rfl) ?_
  refine bM (q := true) 9 rfl (by kernel_rfl) rfl rfl (bp (zs := [.int .i64 0, .int .i64 0]) (by kernel_rfl) rfl (fun b4_9 => ?_))
  refine bST rfl ?_
  refine bM 10 rfl (by kernel_rfl) rfl rfl (aT 2 tk34 rfl rfl rfl rfl ?_)
  refine bST rfl ?_
  refine bV 11 rfl rfl (bJ rfl) ?_
  refine bD (by kernel_rfl) ?_
  refine av (aSR (aM rfl (aNn ?_)))
  refine ah _ rfl (fun h2 => ?_) (fun h2 => ?_)
  ·skip
   obtain ⟨e, he⟩ : ∃ e, cd x.kp.l L (n, v) = some e := by
     cases hc : cd x.kp.l L (n, v) with
     | some e => exact ⟨e, rfl⟩
     | none => unfold chP at h2; rw [hc] at h2; cases h2
   have hp0 : (chP x.kp.l L (n, v)).getD ⟨0, 0⟩ = e.p := by unfold chP; rw [he]; rfl
   refine aSR (aU rfl (ab 2 tk34 rfl rfl rfl) ?_)
   refine aj rfl (aT 1 tk34 rfl rfl rfl rfl ?_)
   refine aHK ?_
   refine aA rfl (aNn (aq (aK ?_)))
   refine dZ [] [] rfl Tryz.results90 (cv 1 tk34 rfl rfl rfl) (cT rfl) ?_ (.inr rfl)
   have hfr : dI x.kp.l L SV n v = some e := by unfold dI; rw [if_neg c1, he]; rfl
   refine ⟨rfl, rfl, (chP x.kp.l L (n, v)).getD ⟨0, 0⟩, by rw [hfr]; rfl, fun e2 he2 => ?_⟩
   rw [hfr] at he2
   rw [hp0, Option.some.inj he2]
  ·skip
   have he : cd x.kp.l L (n, v) = none := by
     cases hc : cd x.kp.l L (n, v) with
     | none => rfl
     | some e => unfold chP at h2; rw [hc] at h2; cases h2
   refine au (av (aSR ?_))
   refine aj (q := true) rfl (bp (zs := [.int .i64 0, .int .i64 0]) (by kernel_rfl) rfl (fun b7_0 => ?_))
   refine aHN ?_
   refine aNn (aSR ?_)
   refine aj (q := true) rfl (bp (zs := [.bool false]) (by kernel_rfl) rfl (fun b8_0 => ?_))
   refine aHN ?_
   refine aj rfl (aT 4 tk4 rfl rfl rfl rfl ?_)
   refine aHK ?_
   refine aNs (az ?_)
   refine aX [] (by kernel_rfl) ?_
   show aB _ _ _ _ _ 9 #[false, false, false, false, false, false, false, false, false] _
   refine bV 0 rfl rfl (ar rfl) ?_
   refine bV 1 rfl rfl (bq rfl) ?_
   refine bV 2 rfl rfl (qFA (off := 7) rfl) ?_
   refine bV 3 rfl rfl (aN (o := 7) tk104 rfl (.of (an 0 rfl)) rfl) ?_
   refine bV 4 rfl rfl (qFA (off := 0) rfl) ?_
   refine bV 5 rfl rfl (ab 0 tk9 rfl rfl rfl) ?_
   refine bV 6 rfl rfl (oQ (k := n) (v0 := (⟨none, 0, []⟩ : Sl cW)) Tryz.underlying104 (kyT) (by kernel_rfl) rfl rfl ((br.g_nm (.of (an 2 rfl))))) ?_
   refine bV 7 rfl rfl (aZ Tryz.underlying159 rfl) ?_
   refine bV 8 rfl rfl (ar rfl) ?_
   refine bD (by kernel_rfl) ?_
   refine av (aw ?_)
   refine aP [0, 3, 4, 10, 11, 46, 47, 48] [2, 1, 0] [0, 1, 3, 4] (fun (q : Nat × (aD × Bool)) s => (q.1 ≤ (cn st.mN n).l.length ∧ iv x.kp.l L SV v ((cn st.mN n).l.take q.1) q.2) ∧ s = ⟨[(0, true, .pointer (some ⟨lb, 0, none⟩)), (3, true, .pointer (some ⟨b0_0, 0, none⟩)), (4, true, .pointer (some ⟨b0_1, 0, none⟩)), (10, true, .pointer (some ⟨b7_0, 0, none⟩)), (11, true, .pointer (some ⟨b8_0, 0, none⟩)), (46, true, slV (cn st.mN n)), (47, true, .int .i64 (cn st.mN n).l.length), (48, true, .int .i64 q.1)],
     [At lb 0 x.row, x.ok, x.fin L st mM], [Box b0_0 157 [.string n, .string v], Box b0_1 34 [.int .i64 0, .int .i64 0], Box b7_0 34 q.2.1.vs, Box b8_0 4 [.bool q.2.2]]⟩) (fun q => (cn st.mN n).l.length - q.1) rfl (⟨(0, (⟨0, 0⟩, false)), ⟨Nat.zero_le _, .start _⟩, rfl⟩) ?_
   rintro ⟨j, fa⟩ s ⟨⟨hj, hL⟩, rfl⟩
   dsimp only at hj hL
   refine aSR (aU rfl (bt rfl rfl) (aNs ?_))
   refine ah _ rfl (fun h3 => ?_) (fun h3 => ?_)
   ·skip
    have hj' : j < (cn st.mN n).l.length := by simp at h3; omega
    obtain ⟨kk, hkk⟩ : ∃ kk, (cn st.mN n).l[j]? = some kk := ⟨_, List.getElem?_eq_getElem hj'⟩
    obtain ⟨ee, hee⟩ : ∃ ee, cd x.kp.l L kk = some ee := by
      cases hc : cd x.kp.l L kk with
      | some ee => exact ⟨ee, rfl⟩
      | none => exact ((eV.1 (by rw [← hF.inv.names]; exact List.mem_of_getElem? hkk)).1 (eG.1 hc)).elim
    refine au (av (az (aw (aSR ?_))))
    refine ck true rfl rfl (fun _ => ai Tryz.underlying159 tk157 rfl ((Ent.cn (br.g_keys (.of (an 2 rfl))) n)) rfl (aJ hkk) rfl rfl) (fun h => absurd h (by decide)) (fun ⟨b11_0, o11_0⟩ => ?_)
    refine aU rfl (aF (o := 0) tk157 rfl (an 0 rfl) rfl rfl) ?_
    refine aj (q := true) rfl (bp (zs := [.string .empty, .string .empty]) (by kernel_rfl) rfl (fun b11_2 => ?_))
    refine aHN ?_
    refine aj rfl (aT 4 tk157 rfl rfl rfl rfl ?_)
    refine aHK ?_
    refine aNs ?_
    refine aX [] (by kernel_rfl) ?_
    show aB _ _ _ _ _ 9 #[false, false, false, false, false, false, false, false, false] _
    refine bV 0 rfl rfl (ar rfl) ?_
    refine bV 1 rfl rfl (bq rfl) ?_
    refine bV 2 rfl rfl (qFA (off := 4) rfl) ?_
    refine bV 3 rfl rfl (aN (o := 4) tk24 rfl (.of (an 1 rfl)) rfl) ?_
    refine bV 4 rfl rfl (qFA (off := 1) rfl) ?_
    refine bV 5 rfl rfl (ab 4 tk9 rfl rfl rfl) ?_
    refine bV 6 rfl rfl (qFA (off := 1) rfl) ?_
    refine bV 7 rfl rfl (ab 0 tk9 rfl rfl rfl) ?_
    refine bV 8 rfl rfl (bw (by kernel_rfl) rfl (fun w S fp hst => (pX x kk.2 v SV hSV).quiet1 (an 2 rfl) hst)) ?_
    refine bD (by kernel_rfl) ?_
    refine av ?_
    refine ah _ rfl (fun h4 => ?_) (fun h4 => ?_)
    ·skip
     refine aX [6] (by kernel_rfl) ?_
     show aB _ _ _ _ _ 7 #[false, false, false, false, false, false, false] _
     refine bV 0 rfl rfl (ar rfl) ?_
     refine bV 1 rfl rfl (bq rfl) ?_
     refine bV 2 rfl rfl (qFA (off := 6) rfl) ?_
     refine bV 3 rfl rfl (aN (o := 6) tk103 rfl (.of (an 1 rfl)) rfl) ?_
     refine bV 4 rfl rfl (ab 4 tk157 rfl rfl rfl) ?_
     refine bV 5 rfl rfl ((oQ (k := kk) (v0 := (⟨0, 0⟩ : aD)) Tryz.underlying103 (kyK) (by kernel_rfl) rfl rfl ((br.g_ch (.of (an 3 rfl))))).castV (v' := aD.val ee.p) (congrArg aD.val (by unfold chP; rw [hee]; rfl))) ?_
     refine bM (q := false) 6 rfl (by kernel_rfl) rfl rfl (bF [] [2, 3] (by kernel_rfl) rfl rfl rfl rfl (iZ b7_0 b8_0 fa ee.p) ?_)
     rintro _ _ _ ⟨rfl, rfl⟩
     refine bST rfl ?_
     refine bD (by kernel_rfl) ?_
     refine bu (av (ae ?_))
     refine aU rfl (bf rfl rfl (by omega)) ?_
     refine aM rfl (aNn ?_)
     refine ⟨[0, 3, 4, 10, 11, 46, 47, 48], [2, 1, 0], [0, 1, 2, 3], rfl, ?_⟩
     exact ⟨(j + 1, dO fa ee.p), ⟨⟨by dsimp only; omega, by dsimp only; rw [List.take_add_one, hkk]; exact hL.hit hee h4⟩, rfl⟩, by dsimp only; omega⟩
    ·skip
     refine au (bu (av (ae ?_)))
     refine aU rfl (bf rfl rfl (by omega)) ?_
     refine aM rfl (aNn ?_)
     refine ⟨[0, 3, 4, 10, 11, 46, 47, 48], [2, 1, 0], [0, 1, 2, 3], rfl, ?_⟩
     exact ⟨(j + 1, fa), ⟨⟨by dsimp only; omega, by dsimp only; rw [List.take_add_one, hkk]; exact hL.miss (by rw [h4]; decide)⟩, rfl⟩, by dsimp only; omega⟩
   ·skip
    have hfin : iv x.kp.l L SV v (dU x.kp.l L n) fa := by
      rw [List.take_of_length_le (by simp at h3; omega), hF.inv.names] at hL; exact hL
    have hlast := hfin.fin hF.asc
    have hfr : dI x.kp.l L SV n v = L.find? fun d => decide (d.s.name = n) && (fD x.kp.l L d && SV d.s.version v) := by unfold dI; rw [if_neg c1, he]; rfl
    rw [← hfr] at hlast
    refine aR (aS (aS (aY (av (az ?_)))))
    refine aX [2] (by kernel_rfl) ?_
    show aB _ _ _ _ _ 4 #[false, false, false, false] _
    refine bV 0 rfl rfl (ab 2 tk34 rfl rfl rfl) ?_
    refine yR (qi := true) (qj := false) 1 2 (by kernel_rfl) rfl rfl rfl rfl rfl rfl ?_ ?_
    ·skip
     refine Quiet.eff (ab 3 tk4 rfl rfl rfl) rfl ?_
     refine bST rfl ?_
     refine bM 2 rfl (by kernel_rfl) rfl rfl (aT 1 tk34 rfl rfl rfl rfl ?_)
     refine bST rfl ?_
     refine bV 3 rfl rfl (bJ rfl) ?_
     refine bD (by kernel_rfl) ?_
     refine av (aq ?_)
     refine dZ [] [] rfl Tryz.results90 (cv 1 tk34 rfl rfl rfl) (cT rfl) ?_ (.inr rfl)
     refine ⟨rfl, rfl, fa.1, ?_, fun e2 he2 => ?_⟩
     · cases hc : dI x.kp.l L SV n v with
       | none => rw [hc] at hlast; dsimp only at hlast; show Value.tuple #[_, Value.bool fa.2] = _; rw [hlast]; rfl
       | some d => rw [hc] at hlast; dsimp only at hlast; show Value.tuple #[_, Value.bool fa.2] = _; rw [hlast.1]; rfl
     · rw [he2] at hlast; exact hlast.2
    ·skip
     refine id (aT 1 tk34 rfl rfl rfl rfl ?_)
     refine bST rfl ?_
     refine bV 1 rfl rfl (ab 3 tk4 rfl rfl rfl) ?_
     refine bV 3 rfl rfl (bJ rfl) ?_
     refine bD (by kernel_rfl) ?_
     refine av (aq ?_)
     refine dZ [] [] rfl Tryz.results90 (cv 1 tk34 rfl rfl rfl) (cT rfl) ?_ (.inr rfl)
     refine ⟨rfl, rfl, fa.1, ?_, fun e2 he2 => ?_⟩
     · cases hc : dI x.kp.l L SV n v with
       | none => rw [hc] at hlast; dsimp only at hlast; show Value.tuple #[_, Value.bool fa.2] = _; rw [hlast]; rfl
       | some d => rw [hc] at hlast; dsimp only at hlast; show Value.tuple #[_, Value.bool fa.2] = _; rw [hlast.1]; rfl
     · rw [he2] at hlast; exact hlast.2
end Go.Proofs.YtgmiihmahaahiaaGreatDoor

namespace Go.Proofs.YtgmiihmahaahiaaGreatDoor
open Go.RowKit Go.Lp Go.Sy
open Go.Proofs.Tryz
attribute [local irreducible] aL aB awp aC fwp
open Classical in
noncomputable def di (vs : List aH) (a b : ByteArray) : Bool := decide (Srv vs a b)
open Classical in
theorem iQ {vs : List aH} {a b : ByteArray} : di vs a b = true ↔ Srv vs a b := by unfold di; exact decide_eq_true_iff
noncomputable def exR (f : bC) (k : cW) (e : cP) : Bool := decide (e.name = k.1) && (if k.2 = .empty then e.main || decide (e.version = .empty) else di f.versions.l e.version k.2)
noncomputable def ifR (k : cW) (f : bC) : Bool := f.exports.l.any (exR f k)
def mH (o : Option Nat) : Int := match o with
 | some i => i
 | none => -1
noncomputable def cA (ifs : List bC) (n v : ByteArray) : Int := mH (ifs.findIdx? (ifR (n, v)))
theorem yp {α : Type} (p : α → Bool) (l : List α) : decide (mH (l.findIdx? p) ≥ 0) = l.any p := by
 cases h : l.findIdx? p with
 | none =>
   rw [List.findIdx?_eq_none_iff] at h
   have : l.any p = false := by rw [List.any_eq_false]; exact fun x hx => by rw [h x hx]; simp
   rw [this]; rfl
 | some i =>
   rw [List.findIdx?_eq_some_iff_getElem] at h
   obtain ⟨hi, h1, _⟩ := h
   have : l.any p = true := List.any_eq_true.2 ⟨_, List.getElem_mem hi, h1⟩
   rw [this, decide_eq_true_eq]; exact Int.natCast_nonneg i
theorem findIdx_take {α : Type} {p : α → Bool} {l : List α} {k : Nat} {a : α} (h : ∀ x ∈ l.take k, p x = false) (ha : l[k]? = some a) (hp : p a = true) : l.findIdx? p = some k := by
 obtain ⟨hk, rfl⟩ := List.getElem?_eq_some_iff.1 ha
 rw [List.findIdx?_eq_some_iff_getElem]
 refine ⟨hk, hp, fun j hj => ?_⟩
 rw [h _ (List.mem_take_iff_getElem.2 ⟨j, by omega, rfl⟩)]; simp
theorem qY (f : bC) (a b : ByteArray) : Con Tryz.prog 22 [f.versions.val, .string a, .string b] [f.ok] [] fun r _ _ => r = .bool (di f.versions.l a b) :=
 (mx f.versions a b (di f.versions.l) (fun _ _ => iQ)).pre fun p hp => by
   simp only [List.mem_cons, List.not_mem_nil, or_false] at hp
   rcases hp with rfl | rfl
   · exact bC.f_versions (.of (an 0 rfl))
   · exact bC.f_versionsA (.of (an 0 rfl))
theorem y6 (kb fb : Nat) (k : cW) (f : bC) (e : cP) : Con Tryz.prog 195 [e.val, .pointer (some ⟨kb, 0, none⟩), .pointer (some ⟨fb, 0, none⟩)] [At kb 0 [.v (.string k.1), .v (.string k.2)], At fb 0 f.row, f.ok] [] (fun r _ _ => r = .bool (exR f k e)) := by
 obtain ⟨n, v⟩ := k
 refine Con.enter Tryz.func195 rfl (by simp [Tryz.ntmps195]) ?_
 show awp _ _ _ _ ⟨[(0, true, _), (1, true, _), (2, true, _)], _, _⟩
 refine aSR ?_
 refine aj (q := true) rfl (bI rfl rfl rfl (fun b0_0 => ?_))
 refine aHN ?_
 refine aA rfl (aNs (aSR ?_))
 refine aU rfl (qFA (off := 0) rfl) ?_
 refine aU rfl (ab 0 tk9 rfl rfl rfl) ?_
 refine aU rfl (qFA (off := 0) rfl) ?_
 refine aU rfl (aN (o := 0) tk9 rfl (.of (an 0 rfl)) rfl) (aU rfl (fH rfl rfl) (aNn ?_))
 refine ah _ rfl (fun h1 => ?_) (fun h1 => ?_)
 ·skip
  have c1 : ¬ e.name = n := by simpa using h1
  refine aSR (aA rfl (aNn (aq (aK ?_))))
  refine aV [] [] rfl Tryz.results195 rfl ?_ (.inr rfl)
  unfold exR; rw [decide_eq_false c1]; rfl
 ·skip
  have c1 : e.name = n := by simpa using h1
  refine au (av (az (aSR ?_)))
  refine aU rfl (qFA (off := 1) rfl) ?_
  refine aU rfl (aN (o := 1) tk9 rfl (.of (an 0 rfl)) rfl) (aU rfl (cZ rfl rfl) (aNn ?_))
  refine ah _ rfl (fun h2 => ?_) (fun h2 => ?_)
  ·skip
   have c2 : v = .empty := of_decide_eq_true h2
   refine aSR ?_
   refine aU rfl (qFA (off := 2) rfl) ?_
   refine aU rfl (ab 0 tk4 rfl rfl rfl) (aM rfl ?_)
   refine aG rfl rfl (fun hc => qFA (off := 1) rfl) ?_
   refine aG rfl rfl (fun hc => ab 0 tk9 (aa rfl hc) rfl rfl) (aG rfl rfl (fun hc => cZ (aa rfl hc) rfl) (aU rfl (ct rfl rfl (fun h => gf rfl h)) (aA rfl (aNn (aq (aK ?_))))))
   refine aV [] [] rfl Tryz.results195 rfl ?_ (.inr rfl)
   unfold exR; rw [decide_eq_true c1, if_pos c2]; rfl
  ·skip
   have c2 : ¬ v = .empty := of_decide_eq_false h2
   refine au (av (aSR ?_))
   refine aU rfl (qFA (off := 2) rfl) ?_
   refine aU rfl (aN (o := 2) tk24 rfl (.of (an 1 rfl)) rfl) ?_
   refine aU rfl (qFA (off := 1) rfl) ?_
   refine aU rfl (ab 0 tk9 rfl rfl rfl) ?_
   refine aU rfl (qFA (off := 1) rfl) ?_
   refine aU rfl (aN (o := 1) tk9 rfl (.of (an 0 rfl)) rfl) ?_
   refine aU rfl (bw (by kernel_rfl) rfl (fun w S fp hst => (qY f e.version v).quiet1 (an 2 rfl) hst)) ?_
   refine aA rfl (aNn (aq ?_))
   refine aV [] [] rfl Tryz.results195 rfl ?_ (.inr rfl)
   unfold exR; rw [decide_eq_true c1, if_neg c2]; rfl
theorem kS (l : Sl cP) (F : FuncId) (caps : List Value) (p : Per) (g : cP → Bool) (hF : bE Tryz.prog F = true) (h : ∀ a ∈ l.l, Con Tryz.prog F (a.val :: caps) [p] [] (fun r _ _ => r = .bool (g a))) : Con Tryz.prog 260 [l.val, .func (.func F) #[] caps.toArray] [ShF cP.row l, p] []
   (fun r _ _ => r = .int .i64 (mH (l.l.findIdx? g))) := by
 refine Con.enter Tryz.func260 rfl (by simp [Tryz.ntmps260]) ?_
 show awp _ _ _ _ ⟨[(0, true, _), (1, true, _)], _, _⟩
 refine bd (.of (an 0 rfl)) (fun hlen => ?_)
 refine aSR (aA rfl (aNs (aSR (aM rfl (aU rfl (aZ Tryz.underlying71 rfl) (aM rfl (aNn (aw ?_))))))))
 refine aP [0, 1, 7, 8] [1, 0] [] (fun (k : Nat) s => (k ≤ l.l.length ∧ ∀ a ∈ l.l.take k, g a = false) ∧ s = ⟨[(0, true, l.val), (1, true, .func (.func F) #[] caps.toArray), (7, true, .int .i64 l.l.length), (8, true, .int .i64 k)], [ShF cP.row l, p], []⟩) (fun k => l.l.length - k) rfl (⟨0, ⟨Nat.zero_le _, fun a ha => by cases ha⟩, rfl⟩) ?_
 rintro k s ⟨⟨hk, hno⟩, rfl⟩
 refine aSR (aU rfl (bt rfl rfl) (aNs ?_))
 refine ah _ rfl (fun h1 => ?_) (fun h1 => ?_)
 ·skip
  have hk' : k < l.l.length := by simpa using h1
  obtain ⟨a, ha⟩ : ∃ a, l.l[k]? = some a := ⟨l.l[k]'hk', by simp⟩
  refine au (av (az (aw (aSR (aM rfl (aA rfl (aNn (aSR (aM rfl (aM rfl (aM rfl ?_)))))))))))
  refine ck true rfl rfl (fun _ => ai Tryz.underlying71 tk128 rfl ((.of (an 0 rfl))) rfl (aJ ha) rfl rfl) (fun h => absurd h (by decide)) (fun ⟨b4_3, o4_3⟩ => ?_)
  refine aU rfl (aF (o := 0) tk128 rfl (an 0 rfl) rfl rfl) (aU rfl (lk hF rfl rfl (fun w S fp hst => (h a (List.mem_of_getElem? ha)).quiet1 (an 2 rfl) hst)) (aNn ?_))
  refine ah _ rfl (fun h2 => ?_) (fun h2 => ?_)
  ·skip
   refine aSR (aM rfl (aA rfl (aNn (aq (bj (aK (aK (bj (aK ?_)))))))))
   refine aV [] [] rfl Tryz.results260 rfl ?_ (.inr rfl)
   rw [findIdx_take hno ha h2]; rfl
  ·skip
   refine au (bu (av (ae ?_)))
   refine aU rfl (bf rfl rfl (by omega)) ?_
   refine aM rfl (aNn ?_)
   refine ⟨[0, 1, 7, 8], [1, 0], [], rfl, ?_⟩
   refine ⟨k + 1, ⟨⟨by omega, ?_⟩, rfl⟩, by omega⟩
   intro y hy
   rw [List.take_add_one, ha, List.mem_append] at hy
   rcases hy with hy | hy
   · exact hno y hy
   · simp at hy; subst hy; exact h2
 ·skip
  refine aR (aS (aS (aY (av (aSR (aA rfl (aNn (aq ?_))))))))
  refine aV [] [] rfl Tryz.results260 rfl ?_ (.inr rfl)
  rw [List.take_of_length_le (by simpa using h1)] at hno
  rw [List.findIdx?_eq_none_iff.2 fun x hx => hno x hx]; rfl
theorem kX (l : Sl cP) (F : FuncId) (caps : List Value) (p : Per) (g : cP → Bool) (hF : bE Tryz.prog F = true) (h : ∀ a ∈ l.l, Con Tryz.prog F (a.val :: caps) [p] [] (fun r _ _ => r = .bool (g a))) : Con Tryz.prog 194 [l.val, .func (.func F) #[] caps.toArray] [ShF cP.row l, p] []
   (fun r _ _ => r = .bool (l.l.any g)) := by
 refine Con.enter Tryz.func194 rfl (by simp [Tryz.ntmps194]) ?_
 show awp _ _ _ _ ⟨[(0, true, _), (1, true, _)], _, _⟩
 refine aSR (aA rfl (aNn (aSR (aM rfl (aM rfl ?_)))))
 refine aU rfl (bw (by kernel_rfl) rfl (fun w S fp hst => (kS l F caps p g hF h).quiet2 (an 0 rfl) (an 1 rfl) hst)) ?_
 refine aU rfl (cL rfl rfl) (aA rfl (aNn (aq ?_)))
 refine aV [] [] rfl Tryz.results194 rfl ?_ (.inr rfl)
 rw [← yp]
theorem yg (kb fb : Nat) (k : cW) (f : bC) (e : cP) : Con Tryz.prog 195 [e.val, .pointer (some ⟨kb, 0, none⟩), .pointer (some ⟨fb, 0, none⟩)] [cx (At kb 0 [.v (.string k.1), .v (.string k.2)]) (cx (At fb 0 f.row) f.ok)] [] (fun r _ _ => r = .bool (exR f k e)) :=
 (y6 kb fb k f e).pre fun p hp => by
   simp only [List.mem_cons, List.not_mem_nil, or_false] at hp
   rcases hp with rfl | rfl | rfl
   · exact .left (.of (an 0 rfl))
   · exact .left (.right (.of (an 0 rfl)))
   · exact .right (.right (.of (an 0 rfl)))
theorem uf (kb fb : Nat) (k : cW) (f : bC) : Con Tryz.prog 194 [f.exports.val, .func (.func 195) #[] #[.pointer (some ⟨kb, 0, none⟩), .pointer (some ⟨fb, 0, none⟩)]] [At fb 0 f.row, At kb 0 [.v (.string k.1), .v (.string k.2)], f.ok] []
   (fun r _ _ => r = .bool (ifR k f)) :=
 (kX f.exports 195 [.pointer (some ⟨kb, 0, none⟩), .pointer (some ⟨fb, 0, none⟩)] _ (exR f k) (by kernel_rfl) (fun a _ => yg kb fb k f a)).pre fun p hp => by
   simp only [List.mem_cons, List.not_mem_nil, or_false] at hp
   rcases hp with rfl | rfl
   · exact bC.f_exports (.of (an 2 rfl))
   · exact .mk2 (.of (an 1 rfl)) (.mk2 (.of (an 0 rfl)) (.of (an 2 rfl)))
theorem za (kb : Nat) (k : cW) (f : bC) : Con Tryz.prog 193 [f.val, .pointer (some ⟨kb, 0, none⟩)] [At kb 0 [.v (.string k.1), .v (.string k.2)], f.ok] [] (fun r _ _ => r = .bool (ifR k f)) := by
 refine Con.enter Tryz.func193 rfl (by simp [Tryz.ntmps193]) ?_
 show awp _ _ _ _ ⟨[(0, true, _), (1, true, _)], _, _⟩
 refine aSR ?_
 refine aj (q := true) rfl (bI rfl rfl rfl (fun b0_0 => ?_))
 refine aHN ?_
 refine aA rfl (aNs (bL 0 rfl rfl ?_))
 show awp _ _ _ _ ⟨_, At _ 0 _ :: _, _⟩
 refine ae ?_
 refine aU rfl (qFA (off := 1) rfl) ?_
 refine aU rfl (aN (o := 1) tk71 rfl (.of (an 0 rfl)) rfl) (aU rfl (dq (l := [.tmp 1, .tmp 2]) rfl) ?_)
 refine aU rfl (bw (by kernel_rfl) rfl (fun w S fp hst => (uf kb b0_0 k f).lA (an 0 rfl) (an 1 rfl) (an 2 rfl) hst)) ?_
 refine aA rfl (aNn (aq ?_))
 refine aV [] [] rfl Tryz.results193 rfl ?_ (.inr rfl)
 rfl
theorem mn (l : Sl bC) (F : FuncId) (caps : List Value) (p : Per) (g : bC → Bool) (hF : bE Tryz.prog F = true) (h : ∀ a ∈ l.l, Con Tryz.prog F (a.val :: caps) [p] [] (fun r _ _ => r = .bool (g a))) : Con Tryz.prog 192 [l.val, .func (.func F) #[] caps.toArray] [ShF bC.row l, p] []
   (fun r _ _ => r = .int .i64 (mH (l.l.findIdx? g))) := by
 refine Con.enter Tryz.func192 rfl (by simp [Tryz.ntmps192]) ?_
 show awp _ _ _ _ ⟨[(0, true, _), (1, true, _)], _, _⟩
 refine bd (.of (an 0 rfl)) (fun hlen => ?_)
 refine aSR (aA rfl (aNs (aSR (aM rfl (aU rfl (aZ Tryz.underlying23 rfl) (aM rfl (aNn (aw ?_))))))))
 refine aP [0, 1, 7, 8] [1, 0] [] (fun (k : Nat) s => (k ≤ l.l.length ∧ ∀ a ∈ l.l.take k, g a = false) ∧ s = ⟨[(0, true, l.val), (1, true, .func (.func F) #[] caps.toArray), (7, true, .int .i64 l.l.length), (8, true, .int .i64 k)], [ShF bC.row l, p], []⟩) (fun k => l.l.length - k) rfl (⟨0, ⟨Nat.zero_le _, fun a ha => by cases ha⟩, rfl⟩) ?_
 rintro k s ⟨⟨hk, hno⟩, rfl⟩
 refine aSR (aU rfl (bt rfl rfl) (aNs ?_))
 refine ah _ rfl (fun h1 => ?_) (fun h1 => ?_)
 ·skip
  have hk' : k < l.l.length := by simpa using h1
  obtain ⟨a, ha⟩ : ∃ a, l.l[k]? = some a := ⟨l.l[k]'hk', by simp⟩
  refine au (av (az (aw (aSR (aM rfl (aA rfl (aNn (aSR (aM rfl (aM rfl (aM rfl ?_)))))))))))
  refine ck true rfl rfl (fun _ => ai Tryz.underlying23 tk73 rfl ((.of (an 0 rfl))) rfl (aJ ha) rfl rfl) (fun h => absurd h (by decide)) (fun ⟨b4_3, o4_3⟩ => ?_)
  refine aU rfl (aF (o := 0) tk73 rfl (an 0 rfl) rfl rfl) (aU rfl (lk hF rfl rfl (fun w S fp hst => (h a (List.mem_of_getElem? ha)).quiet1 (an 2 rfl) hst)) (aNn ?_))
  refine ah _ rfl (fun h2 => ?_) (fun h2 => ?_)
  ·skip
   refine aSR (aM rfl (aA rfl (aNn (aq (bj (aK (aK (bj (aK ?_)))))))))
   refine aV [] [] rfl Tryz.results192 rfl ?_ (.inr rfl)
   rw [findIdx_take hno ha h2]; rfl
  ·skip
   refine au (bu (av (ae ?_)))
   refine aU rfl (bf rfl rfl (by omega)) ?_
   refine aM rfl (aNn ?_)
   refine ⟨[0, 1, 7, 8], [1, 0], [], rfl, ?_⟩
   refine ⟨k + 1, ⟨⟨by omega, ?_⟩, rfl⟩, by omega⟩
   intro y hy
   rw [List.take_add_one, ha, List.mem_append] at hy
   rcases hy with hy | hy
   · exact hno y hy
   · simp at hy; subst hy; exact h2
 ·skip
  refine aR (aS (aS (aY (av (aSR (aA rfl (aNn (aq ?_))))))))
  refine aV [] [] rfl Tryz.results192 rfl ?_ (.inr rfl)
  rw [List.take_of_length_le (by simpa using h1)] at hno
  rw [List.findIdx?_eq_none_iff.2 fun x hx => hno x hx]; rfl
theorem ym (ifs : Sl bC) (kb : Nat) (k : cW) (f : bC) (hf : f ∈ ifs.l) : Con Tryz.prog 193 [f.val, .pointer (some ⟨kb, 0, none⟩)] [cx (At kb 0 [.v (.string k.1), .v (.string k.2)]) (bP bC.ok ifs.l)] [] (fun r _ _ => r = .bool (ifR k f)) :=
 (za kb k f).pre fun p hp => by
   simp only [List.mem_cons, List.not_mem_nil, or_false] at hp
   rcases hp with rfl | rfl
   · exact .left (.of (an 0 rfl))
   · exact .allm (.right (.of (an 0 rfl))) hf
theorem vP (x : br) (kb : Nat) (k : cW) : Con Tryz.prog 192 [x.ifs.val, .func (.func 193) #[] #[.pointer (some ⟨kb, 0, none⟩)]] [At kb 0 [.v (.string k.1), .v (.string k.2)], x.ok] []
   (fun r _ _ => r = .int .i64 (cA x.ifs.l k.1 k.2)) :=
 (mn x.ifs 193 [.pointer (some ⟨kb, 0, none⟩)] _ (ifR k) (by kernel_rfl) (fun a ha => ym x.ifs kb k a ha)).pre fun p hp => by
   simp only [List.mem_cons, List.not_mem_nil, or_false] at hp
   rcases hp with rfl | rfl
   · exact br.f_ifs (.of (an 1 rfl))
   · exact .mk2 (.of (an 0 rfl)) (br.f_ifsA (.of (an 1 rfl)))
theorem pK (x : br) (lb : Nat) (n v : ByteArray) : Con Tryz.prog 92 [.pointer (some ⟨lb, 0, none⟩), cj (n, v)] [At lb 0 x.row, x.ok] [] (fun r _ _ => r = .int .i64 (cA x.ifs.l n v)) := by
 refine Con.enter Tryz.func92 rfl (by simp [Tryz.ntmps92]) ?_
 show awp _ _ _ _ ⟨[(0, true, _), (1, true, _)], _, _⟩
 refine aSR ?_
 refine aj (q := true) rfl (bI rfl rfl rfl (fun b0_0 => ?_))
 refine aHN ?_
 refine aA rfl (aNs (bL 0 rfl rfl ?_))
 show awp _ _ _ _ ⟨_, At _ 0 _ :: _, _⟩
 refine ae (aM rfl (aU rfl (bq rfl) ?_))
 refine aU rfl (qFA (off := 3) rfl) ?_
 refine aU rfl (aN (o := 3) tk23 rfl (.of (an 1 rfl)) rfl) (aU rfl (dq (l := [.tmp 3]) rfl) ?_)
 refine aU rfl (bw (by kernel_rfl) rfl (fun w S fp hst => (vP x b0_0 (n, v)).quiet2 (an 0 rfl) (an 2 rfl) hst)) ?_
 refine aA rfl (aNn (aq ?_))
 refine aV [] [] rfl Tryz.results92 rfl ?_ (.inr rfl)
 rfl
end Go.Proofs.YtgmiihmahaahiaaGreatDoor

namespace Go.Proofs.YtgmiihmahaahiaaGreatDoor
open Go.RowKit Go.Lp Go.Sy
open Go.Proofs.Tryz
attribute [local irreducible] aL aB awp aC fwp
theorem vO (x : br) (n : ByteArray) : Con Tryz.prog 16 [x.objs.val, .string n] [x.ok] [] (fun r _ _ => r = .int .i64 (fB (aW x.objs.l) n)) :=
 (pC x.objs n).pre fun p hp => by
   simp only [List.mem_cons, List.not_mem_nil, or_false] at hp
   rcases hp with rfl | rfl
   · exact br.f_objs (.of (an 0 rfl))
   · exact br.f_objsA (.of (an 0 rfl))
theorem rV (x : br) (hok : ew x.objs.l x.kp.l) (lb : Nat) (L : List Dfn) (st : CS) (mM : ByteArray → Option aD) (hF : kP x L st mM) (SV : ByteArray → ByteArray → Bool) (hSV : ∀ p q, SV p q = true ↔ Srv x.vs.l p q) (d : Dfn) (hd : InD x.objs.l d) :
   Con Tryz.prog 38 [.pointer (some ⟨lb, 0, none⟩), d.p.val, d.s.val] [At lb 0 x.row, x.ok, x.fin L st mM] [] (fun r ps hp => ps = [] ∧ hp = [] ∧ ∃ c : aO, r = .tuple #[c.val, .bool (bS x.kp.l L SV (cA x.ifs.l) x.lib d).isSome] ∧ ((bS x.kp.l L SV (cA x.ifs.l) x.lib d).getD ff) = c) := by
 obtain ⟨i, k, hi, hk, hpd⟩ := hd
 obtain ⟨p, s⟩ := d
 dsimp only at hk hpd
 subst hpd
 have ho := bN hi
 have hkn := hok.kn
 have hkp := bN (l := x.kp.l) (i := i) (by omega)
 have hks := hok.ks i hi
 have hsec := hok.sec _ (List.mem_of_getElem? ho) s (List.mem_of_getElem? hk)
 refine Con.enter Tryz.func38 rfl (by simp [Tryz.ntmps38]) ?_
 show awp _ _ _ _ ⟨[(0, true, _), (1, true, _), (2, true, _)], _, _⟩
 refine aSR ?_
 refine aj (q := true) rfl (bI rfl rfl rfl (fun b0_0 => ?_))
 refine aHN ?_
 refine aj (q := true) rfl (bI rfl rfl rfl (fun b0_1 => ?_))
 refine aHN ?_
 refine aj (q := true) rfl (bp (zs := [.int .i64 0, .int .i64 0, .int .i64 0, .int .i64 0, .int .i64 0, .bool false]) (by kernel_rfl) rfl (fun b0_2 => ?_))
 refine aHN ?_
 refine aA rfl (aNs (aSR ?_))
 refine aU rfl (qFA (off := 3) rfl) ?_
 refine aU rfl (ab 1 tk3 rfl rfl rfl) (aU rfl (bB rfl rfl) (aNn ?_))
 refine ah _ rfl (fun h1 => ?_) (fun h1 => ?_)
 ·skip
  have c1 : s.bind = 0 := by simpa using h1
  refine az (az ?_)
  refine aX [] (by kernel_rfl) ?_
  show aB _ _ _ _ _ 13 #[false, false, false, false, false, false, false, false, false, false, false, false, false] _
  refine bV 0 rfl rfl (ar rfl) ?_
  refine bV 1 rfl rfl (bq rfl) ?_
  refine bV 2 rfl rfl (qFA (off := 1) rfl) ?_
  refine bV 3 rfl rfl (aN (o := 1) tk27 rfl (.of (an 0 rfl)) rfl) ?_
  refine bV 4 rfl rfl (qFA (off := 0) rfl) ?_
  refine bV 5 rfl rfl (ab 0 tk3 rfl rfl rfl) ?_
  refine cD 6 rfl (by kernel_rfl) true rfl rfl (fun _ => ai Tryz.underlying27 tk68 rfl ((br.f_kp (.of (an 1 rfl)))) rfl (aJ hkp) rfl rfl) (fun h => absurd h (by decide)) (fun ⟨b2_6, o2_6⟩ => ?_)
  refine bV 7 rfl rfl (aF (o := 0) tk68 rfl (an 0 rfl) rfl rfl) ?_
  refine bV 8 rfl rfl (qFA (off := 6) rfl) ?_
  refine bV 9 rfl rfl (ab 1 tk3 rfl rfl rfl) ?_
  refine cD 10 rfl (by kernel_rfl) true rfl rfl (fun _ => ai Tryz.underlying68 tk4 rfl ((Ent.all (f := ShF bR) (br.f_kpA (.of (an 2 rfl))) hkp)) rfl (cR (i := s.sec) (by omega) (by omega)) (by omega) rfl) (fun h => absurd h (by decide)) (fun ⟨b2_10, o2_10⟩ => ?_)
  refine bV 11 rfl rfl (aF (o := 0) tk4 rfl (an 0 rfl) rfl rfl) ?_
  refine bV 12 rfl rfl (bT rfl) ?_
  refine bD (by kernel_rfl) ?_
  refine av ?_
  refine ah _ rfl (fun h2 => ?_) (fun h2 => ?_)
  ·skip
   have c2 : ¬ lF x.kp.l i s.sec = true := by unfold lF; simpa using h2
   refine aSR ?_
   refine aU rfl (cU (l := []) (zs := [.int .i64 0, .int .i64 0, .int .i64 0, .int .i64 0, .int .i64 0, .bool false]) (pl := [(0, 1), (1, 1), (2, 1), (3, 1), (4, 1), (5, 1)]) (by kernel_rfl) (by kernel_rfl) (by kernel_rfl) rfl rfl rfl) ?_
   refine aj rfl (aT 2 tk65 rfl rfl rfl rfl ?_)
   refine aHK ?_
   refine aA rfl (aNn (aq (aK (aK ?_))))
   refine dZ [] [] rfl Tryz.results38 (cv 2 tk65 rfl rfl rfl) (cT rfl) ?_ (.inr rfl)
   have hC : bS x.kp.l L SV (cA x.ifs.l) x.lib ⟨⟨i, k⟩, s⟩ = some ff := by unfold bS; rw [if_pos c1, if_neg c2]
   exact ⟨rfl, rfl, ff, by rw [hC]; rfl, by rw [hC]; rfl⟩
  ·skip
   have c2 : lF x.kp.l i s.sec = true := by unfold lF; simpa using h2
   refine au (av (aSR ?_))
   refine aU rfl (qFA (off := 0) rfl) ?_
   refine aU rfl (ab 0 tk3 rfl rfl rfl) ?_
   refine aU rfl (qFA (off := 1) rfl) ?_
   refine aU rfl (ab 0 tk3 rfl rfl rfl) ?_
   refine aU rfl (cU (l := [(0, .const (.int .i64 1)), (1, .tmp 31), (2, .tmp 33), (4, .const (.int .i64 0))]) (zs := [.int .i64 0, .int .i64 0, .int .i64 0, .int .i64 0, .int .i64 0, .bool false]) (pl := [(0, 1), (1, 1), (2, 1), (3, 1), (4, 1), (5, 1)]) (by kernel_rfl) (by kernel_rfl) (by kernel_rfl) rfl rfl rfl) ?_
   refine aj rfl (aT 2 tk65 rfl rfl rfl rfl ?_)
   refine aHK ?_
   refine aA rfl (aNn (aq (aK ?_)))
   refine dZ [] [] rfl Tryz.results38 (cv 2 tk65 rfl rfl rfl) (cT rfl) ?_ (.inr rfl)
   have hC : bS x.kp.l L SV (cA x.ifs.l) x.lib ⟨⟨i, k⟩, s⟩ = some ⟨1, i, k, 0, 0, false⟩ := by unfold bS; rw [if_pos c1, if_pos c2]
   exact ⟨rfl, rfl, (⟨1, (i : Int), (k : Int), 0, 0, false⟩ : aO), by rw [hC]; rfl, by rw [hC]; rfl⟩
 ·skip
  have c1 : ¬ s.bind = 0 := by simpa using h1
  refine au (av (aSR ?_))
  refine aU rfl (qFA (off := 0) rfl) ?_
  refine aU rfl (ab 1 tk9 rfl rfl rfl) ?_
  refine aU rfl (qFA (off := 1) rfl) ?_
  refine aU rfl (ab 1 tk9 rfl rfl rfl) ?_
  refine aU rfl (cU (l := [(0, .tmp 36), (1, .tmp 38)]) (zs := [.string .empty, .string .empty]) (pl := [(0, 1), (1, 1)]) (by kernel_rfl) (by kernel_rfl) (by kernel_rfl) rfl rfl rfl) ?_
  refine aj (q := true) rfl (bp (zs := [.string .empty, .string .empty]) (by kernel_rfl) rfl (fun b5_5 => ?_))
  refine aHN ?_
  refine aj rfl (aT 3 tk157 rfl rfl rfl rfl ?_)
  refine aHK ?_
  refine aNs (aSR (aM rfl (aU rfl (ab 3 tk157 rfl rfl rfl) ?_)))
  refine aj (q := true) rfl (bF [2, 1, 0] [] (by kernel_rfl) rfl rfl rfl rfl (wH x hok lb L st mM hF SV hSV s.name s.version) ?_)
  rintro _ _ _ ⟨rfl, rfl, q, rfl, hfe⟩
  refine aST ?_
  refine aM rfl (aU rfl (bc rfl rfl) (aU rfl (bc rfl rfl) ?_))
  refine aj (q := true) rfl (bp (zs := [.int .i64 0, .int .i64 0]) (by kernel_rfl) rfl (fun b6_6 => ?_))
  refine aHN ?_
  refine aj rfl (aT 4 tk34 rfl rfl rfl rfl ?_)
  refine aHK ?_
  refine aA rfl (aNn (aSR (aM rfl (aNn ?_))))
  refine ah _ rfl (fun h3 => ?_) (fun h3 => ?_)
  ·skip
   obtain ⟨e, he⟩ : ∃ e, dI x.kp.l L SV s.name s.version = some e := Option.isSome_iff_exists.1 h3
   obtain ⟨he1, _, _⟩ := jm hF.asc he
   obtain rfl := hfe e he
   refine az ?_
   refine ec [24] [24] [b0_0, b0_1, b5_5] (by kernel_rfl) ?_
   show aC _ _ _ _ _ _ _ 25 #[false, false, false, false, false, false, false, false, false, false, false, false, false, false, false, false, false, false, false, false, false, false, false, false, false] _
   refine cX 0 rfl (by kernel_rfl) true rfl rfl (fun _ => qFA (off := 0) rfl) ?_
   refine l9 1 rfl (by kernel_rfl) true rfl rfl (fun _ => ab 4 tk3 rfl rfl rfl) ?_
   refine cX 2 rfl (by kernel_rfl) true rfl rfl (fun _ => qFA (off := 1) rfl) ?_
   refine l9 3 rfl (by kernel_rfl) true rfl rfl (fun _ => ab 4 tk3 rfl rfl rfl) ?_
   refine cX 4 rfl (by kernel_rfl) true rfl rfl (fun _ => ar rfl) ?_
   refine eU 5 1 rfl (by kernel_rfl) true rfl rfl (by simp) tk63 (fun _ => rfl) rfl rfl ?_
   refine l9 6 rfl (by kernel_rfl) true rfl rfl (fun _ => ab 4 tk34 rfl rfl rfl) ?_
   refine cX 7 rfl (by kernel_rfl) true rfl rfl (fun _ => bw (by kernel_rfl) rfl (fun w S fp hst => (x7 x hok lb L st mM hF s e he1).lA (an 0 rfl) (an 1 rfl) (an 2 rfl) hst)) ?_
   refine cX 8 rfl (by kernel_rfl) true rfl rfl (fun _ => ar rfl) ?_
   refine cX 9 rfl (by kernel_rfl) true rfl rfl (fun _ => bq rfl) ?_
   refine cX 10 rfl (by kernel_rfl) true rfl rfl (fun _ => qFA (off := 2) rfl) ?_
   refine cX 11 rfl (by kernel_rfl) true rfl rfl (fun _ => aN (o := 2) tk4 rfl (.of (an 0 rfl)) rfl) ?_
   refine cX 12 rfl (by kernel_rfl) true rfl rfl (fun _ => ar rfl) ?_
   refine cX 13 rfl (by kernel_rfl) _ rfl rfl (fun hc => ar rfl) ?_
   refine cX 14 rfl (by kernel_rfl) _ rfl rfl (fun hc => bq (aa rfl hc)) ?_
   refine cX 15 rfl (by kernel_rfl) _ rfl rfl (fun hc => qFA (off := 0) (aa rfl hc)) ?_
   refine cX 16 rfl (by kernel_rfl) _ rfl rfl (fun hc => aN (o := 0) tk22 (aa rfl hc) (.of (an 0 rfl)) rfl) ?_
   refine cX 17 rfl (by kernel_rfl) _ rfl rfl (fun hc => qFA (off := 0) rfl) ?_
   refine eU 18 1 rfl (by kernel_rfl) _ rfl rfl (by simp) tk9 (fun hc => (aa rfl hc)) rfl rfl ?_
   refine cX 19 rfl (by kernel_rfl) _ rfl rfl (fun hc => bw (by kernel_rfl) (aI (aa rfl hc) (aI (aa rfl hc) rfl)) (fun w S fp hst => (vO x s.name).quiet1 (an 1 rfl) hst)) ?_
   refine cX 20 rfl (by kernel_rfl) _ rfl rfl (fun hc => bB (aa rfl hc) rfl) ?_
   refine cX 21 rfl (by kernel_rfl) true rfl rfl (fun _ => bn rfl rfl (fun h => gt rfl h)) ?_
   refine cX 22 rfl (by kernel_rfl) true rfl rfl (fun _ => cU (l := [(0, .const (.int .i64 2)), (1, .tmp 48), (2, .tmp 50), (4, .tmp 54), (5, .tmp 68)]) (zs := [.int .i64 0, .int .i64 0, .int .i64 0, .int .i64 0, .int .i64 0, .bool false]) (pl := [(0, 1), (1, 1), (2, 1), (3, 1), (4, 1), (5, 1)]) (by kernel_rfl) (by kernel_rfl) (by kernel_rfl) rfl rfl rfl) ?_
   refine cz 23 [] (by kernel_rfl) (bO ?_ cm)
   refine cM 23 rfl rfl (Eff.x ?_)
   refine id (bp (zs := [.int .i64 0, .int .i64 0, .int .i64 0, .int .i64 0, .int .i64 0, .bool false]) (by kernel_rfl) rfl (fun b8_23 => ?_))
   refine dy (by (try simp only [nO, nK, nL]); rfl) (by (try simp only [nM, nN]); rfl) (by (try simp only [bX, nQ, nR, dt, place, Nat.reduceBEq, if_true, if_false, reduceIte, Nat.reduceAdd, nW]); rfl) ?_
   refine cz 24 [] (by kernel_rfl) (bO ?_ cm)
   refine cM 24 rfl rfl (Eff.wild (q := false) ?_)
   refine id (aT 5 tk65 rfl rfl rfl rfl ?_)
   refine dy (by (try simp only [nO, nK, nL]); rfl) (by (try simp only [nM, nN]); rfl) (by (try simp only [bX, nQ, nR, dt, place, Nat.reduceBEq, if_true, if_false, reduceIte, Nat.reduceAdd, nW]); rfl) ?_
   refine gu (by kernel_rfl) ?_
   refine av (az (aSR (aM rfl (aU rfl (ab 4 tk34 rfl rfl rfl) ?_))))
   refine aU rfl (bw (by kernel_rfl) rfl (fun w S fp hst => (lv x lb e (by rw [← i1, ← hF.flat]; exact he1)).quiet2 (an 0 rfl) (an 1 rfl) hst)) ?_
   refine aU rfl (ri (off := 3) (by kernel_rfl) rfl rfl) ?_
   refine aU rfl (bB rfl rfl) (aNn ?_)
   refine ah _ rfl (fun h4 => ?_) (fun h4 => ?_)
   ·skip
    have c4 : e.s.bind = 3 := by simpa using h4
    refine ae ?_
    refine aU rfl (qFA (off := 0) rfl) ?_
    refine aj rfl (aT 5 tk3 rfl rfl rfl rfl ?_)
    refine aHK ?_
    refine aNn (aSR (aU rfl (ab 5 tk65 rfl rfl rfl) ?_))
    refine aj rfl (aT 2 tk65 rfl rfl rfl rfl ?_)
    refine aHK ?_
    refine aA rfl (aNn (aq (aK ?_)))
    refine dZ [] [] rfl Tryz.results38 (cv 2 tk65 rfl rfl rfl) (cT rfl) ?_ (.inr rfl)
    have hC : bS x.kp.l L SV (cA x.ifs.l) x.lib ⟨⟨i, k⟩, s⟩ = some ⟨3, e.p.obj, e.p.sym, 0, gQ x.kp.l L s e, x.lib && decide (fB L s.name = 0)⟩ := by unfold bS; rw [if_neg c1]; dsimp only; rw [he]; dsimp only; rw [if_pos c4]
    exact ⟨rfl, rfl, (⟨3, e.p.obj, e.p.sym, 0, gQ x.kp.l L s e, x.lib && decide (fB L s.name = 0)⟩ : aO), by rw [hC, hF.flat]; cases hlib : x.lib <;> simp [hlib], by rw [hC]; rfl⟩
   ·skip
    have c4 : ¬ e.s.bind = 3 := by simpa using h4
    refine au (av (aSR (aU rfl (ab 5 tk65 rfl rfl rfl) ?_)))
    refine aj rfl (aT 2 tk65 rfl rfl rfl rfl ?_)
    refine aHK ?_
    refine aA rfl (aNn (aq (aK ?_)))
    refine dZ [] [] rfl Tryz.results38 (cv 2 tk65 rfl rfl rfl) (cT rfl) ?_ (.inr rfl)
    have hC : bS x.kp.l L SV (cA x.ifs.l) x.lib ⟨⟨i, k⟩, s⟩ = some ⟨2, e.p.obj, e.p.sym, 0, gQ x.kp.l L s e, x.lib && decide (fB L s.name = 0)⟩ := by unfold bS; rw [if_neg c1]; dsimp only; rw [he]; dsimp only; rw [if_neg c4]
    exact ⟨rfl, rfl, (⟨2, e.p.obj, e.p.sym, 0, gQ x.kp.l L s e, x.lib && decide (fB L s.name = 0)⟩ : aO), by rw [hC, hF.flat]; cases hlib : x.lib <;> simp [hlib], by rw [hC]; rfl⟩
  ·skip
   have he : dI x.kp.l L SV s.name s.version = none := by simpa using h3
   refine au (av (az (aSR (aM rfl (aU rfl (ab 3 tk157 rfl rfl rfl) ?_)))))
   refine aU rfl (bw (by kernel_rfl) rfl (fun w S fp hst => (pK x lb s.name s.version).quiet2 (an 0 rfl) (an 1 rfl) hst)) ?_
   refine aA rfl (aNn (aSR (aM rfl (aU rfl (cL rfl rfl) (aNn ?_)))))
   refine ah _ rfl (fun h5 => ?_) (fun h5 => ?_)
   ·skip
    have c5 : cA x.ifs.l s.name s.version ≥ 0 := by simpa using h5
    refine aSR (aM rfl ?_)
    refine aU rfl (cU (l := [(0, .const (.int .i64 4)), (3, .tmp 82), (4, .const (.int .i64 6))]) (zs := [.int .i64 0, .int .i64 0, .int .i64 0, .int .i64 0, .int .i64 0, .bool false]) (pl := [(0, 1), (1, 1), (2, 1), (3, 1), (4, 1), (5, 1)]) (by kernel_rfl) (by kernel_rfl) (by kernel_rfl) rfl rfl rfl) ?_
    refine aj rfl (aT 2 tk65 rfl rfl rfl rfl ?_)
    refine aHK ?_
    refine aA rfl (aNn (aq (aK ?_)))
    refine dZ [] [] rfl Tryz.results38 (cv 2 tk65 rfl rfl rfl) (cT rfl) ?_ (.inr rfl)
    have hC : bS x.kp.l L SV (cA x.ifs.l) x.lib ⟨⟨i, k⟩, s⟩ = some ⟨4, 0, 0, cA x.ifs.l s.name s.version, 6, false⟩ := by unfold bS; rw [if_neg c1]; dsimp only; rw [he]; dsimp only; rw [if_pos c5]
    exact ⟨rfl, rfl, (⟨4, 0, 0, cA x.ifs.l s.name s.version, 6, false⟩ : aO), by rw [hC]; rfl, by rw [hC]; rfl⟩
   ·skip
    have c5 : ¬ cA x.ifs.l s.name s.version ≥ 0 := by simpa using h5
    refine au (av (az (aw (aSR ?_))))
    refine aU rfl (qFA (off := 6) rfl) ?_
    refine aU rfl (ab 1 tk3 rfl rfl rfl) (aU rfl (cN rfl rfl) (aA rfl (aNn ?_)))
    refine ah _ rfl (fun h6 => ?_) (fun h6 => ?_)
    ·skip
     have c6 : s.sec ≠ -1 := by simpa using h6
     refine aSR ?_
     refine aU rfl (cU (l := []) (zs := [.int .i64 0, .int .i64 0, .int .i64 0, .int .i64 0, .int .i64 0, .bool false]) (pl := [(0, 1), (1, 1), (2, 1), (3, 1), (4, 1), (5, 1)]) (by kernel_rfl) (by kernel_rfl) (by kernel_rfl) rfl rfl rfl) ?_
     refine aj rfl (aT 2 tk65 rfl rfl rfl rfl ?_)
     refine aHK ?_
     refine aA rfl (aNn (aq (bj (aK ?_))))
     refine dZ [] [] rfl Tryz.results38 (cv 2 tk65 rfl rfl rfl) (cT rfl) ?_ (.inr rfl)
     have hC : bS x.kp.l L SV (cA x.ifs.l) x.lib ⟨⟨i, k⟩, s⟩ = some ff := by unfold bS; rw [if_neg c1]; dsimp only; rw [he]; dsimp only; rw [if_neg c5, if_pos c6]
     exact ⟨rfl, rfl, ff, by rw [hC]; rfl, by rw [hC]; rfl⟩
    ·skip
     have c6 : ¬ s.sec ≠ -1 := by simpa using h6
     refine aSR ?_
     refine aU rfl (qFA (off := 3) rfl) ?_
     refine aU rfl (ab 1 tk3 rfl rfl rfl) (aU rfl (bB rfl rfl) (aA rfl (aNn ?_)))
     refine ah _ rfl (fun h7 => ?_) (fun h7 => ?_)
     ·skip
      have c7 : s.bind = 2 := by simpa using h7
      refine aSR ?_
      refine aU rfl (cU (l := [(0, .const (.int .i64 5)), (4, .const (.int .i64 7))]) (zs := [.int .i64 0, .int .i64 0, .int .i64 0, .int .i64 0, .int .i64 0, .bool false]) (pl := [(0, 1), (1, 1), (2, 1), (3, 1), (4, 1), (5, 1)]) (by kernel_rfl) (by kernel_rfl) (by kernel_rfl) rfl rfl rfl) ?_
      refine aj rfl (aT 2 tk65 rfl rfl rfl rfl ?_)
      refine aHK ?_
      refine aA rfl (aNn (aq (bj (aK ?_))))
      refine dZ [] [] rfl Tryz.results38 (cv 2 tk65 rfl rfl rfl) (cT rfl) ?_ (.inr rfl)
      have hC : bS x.kp.l L SV (cA x.ifs.l) x.lib ⟨⟨i, k⟩, s⟩ = some ⟨5, 0, 0, 0, 7, false⟩ := by unfold bS; rw [if_neg c1]; dsimp only; rw [he]; dsimp only; rw [if_neg c5, if_neg c6, if_pos c7]
      exact ⟨rfl, rfl, (⟨5, 0, 0, 0, 7, false⟩ : aO), by rw [hC]; rfl, by rw [hC]; rfl⟩
     ·skip
      have c7 : ¬ s.bind = 2 := by simpa using h7
      refine au (bu (av (aSR ?_)))
      refine aU rfl (cU (l := []) (zs := [.int .i64 0, .int .i64 0, .int .i64 0, .int .i64 0, .int .i64 0, .bool false]) (pl := [(0, 1), (1, 1), (2, 1), (3, 1), (4, 1), (5, 1)]) (by kernel_rfl) (by kernel_rfl) (by kernel_rfl) rfl rfl rfl) ?_
      refine aj rfl (aT 2 tk65 rfl rfl rfl rfl ?_)
      refine aHK ?_
      refine aA rfl (aNn (aq ?_))
      refine dZ [] [] rfl Tryz.results38 (cv 2 tk65 rfl rfl rfl) (cT rfl) ?_ (.inr rfl)
      have hC : bS x.kp.l L SV (cA x.ifs.l) x.lib ⟨⟨i, k⟩, s⟩ = none := by unfold bS; rw [if_neg c1]; dsimp only; rw [he]; dsimp only; rw [if_neg c5, if_neg c6, if_neg c7]
      exact ⟨rfl, rfl, ff, by rw [hC]; rfl, by rw [hC]; rfl⟩
end Go.Proofs.YtgmiihmahaahiaaGreatDoor

namespace Go.Proofs.YtgmiihmahaahiaaGreatDoor
open Go.RowKit Go.Lp Go.Sy
open Go.Proofs.Tryz
attribute [local irreducible] aL aB awp aC fwp
structure BS where
 mC : Nat → Option (Sl aO)
 fa : aD × Bool
def ix (m : Nat → Option (Sl aO)) (n : Nat) : List (List D) := (List.range n).map fun i => [.v (slV (cn m i))]
structure ju (ch : Dfn → Option aO) (M : List Dfn) (st : BS) : Prop where
 rows : ∀ i : Nat, (cn st.mC i).l = (M.filter fun d => decide (d.p.obj = (i : Int))).map fun d => (ch d).getD ff
 tw : (M.find? fun d => decide (ch d = none)).map (·.p) = if st.fa.2 = true then some st.fa.1 else none
abbrev ru (vo : Value) (a b n : Nat) (st : BS) : List Res :=
 [bA vo 66 1 (ix st.mC n), dS 65 6 aO.row st.mC, Box a 34 st.fa.1.vs, Box b 4 [.bool st.fa.2]]
theorem fM (m : Nat → Option (Sl aO)) (n : Nat) : (ix m n).length = n := by simp [ix]
theorem gU (m : Nat → Option (Sl aO)) {n i : Nat} (h : i < n) : (ix m n)[i]? = some [.v (slV (cn m i))] := by simp [ix, h]
theorem qp (m : Nat → Option (Sl aO)) (n i : Nat) (s : Sl aO) : (ix m n).set i [.v (slV s)] = ix (cC m i s) n := by
 apply List.ext_getElem?
 intro j
 rw [List.getElem?_set]
 by_cases hj : j < n
 · rw [gU _ hj, gU _ hj, jL, fM]
   by_cases h : i = j
   · subst h; rw [if_pos rfl, if_pos hj, if_pos rfl]
   · rw [if_neg h, if_neg (Ne.symm h)]
 · have h1 : (ix m n)[j]? = none := List.getElem?_eq_none (by rw [fM]; omega)
   have h2 : (ix (cC m i s) n)[j]? = none := List.getElem?_eq_none (by rw [fM]; omega)
   rw [h1, h2, fM]
   by_cases h : i = j
   · subst h; rw [if_pos rfl, if_neg hj]
   · rw [if_neg h]
theorem ju.start (ch : Dfn → Option aO) (p : aD) : ju ch [] ⟨fun _ => none, (p, false)⟩ := ⟨fun _ => rfl, rfl⟩
theorem ju.step {ch : Dfn → Option aO} {M : List Dfn} {st : BS} (h : ju ch M st) {d : Dfn} {i : Nat} (hi : d.p.obj = (i : Int)) (hA : Asc (M ++ [d])) {s : Sl aO} (hs : s.l = (cn st.mC i).l ++ [(ch d).getD ff]) {fa : aD × Bool}
   (hf : fa = if ch d = none then dO st.fa d.p else st.fa) : ju ch (M ++ [d]) ⟨cC st.mC i s, fa⟩ where
 rows j := by
   rw [jL, List.filter_append, List.map_append]
   by_cases hj : j = i
   · subst hj
     rw [if_pos rfl, hs, h.rows]
     have : [d].filter (fun d => decide (d.p.obj = (j : Int))) = [d] := by simp [hi]
     rw [this]; rfl
   · rw [if_neg hj, h.rows]
     have : [d].filter (fun d => decide (d.p.obj = (j : Int))) = [] := by
       rw [List.filter_cons_of_neg (by rw [decide_eq_true_eq, hi]; omega)]; rfl
     rw [this]; simp
 tw := by
   show _ = if fa.2 = true then some fa.1 else none
   rw [List.find?_append, Option.map_or, h.tw, hf]
   by_cases hc : ch d = none
   · rw [if_pos hc, List.find?_cons_of_pos (by rw [decide_eq_true_eq]; exact hc)]
     unfold dO
     cases hb : st.fa.2 with
     | false => simp
     | true =>
       have := h.tw
       rw [if_pos hb, Option.map_eq_some_iff] at this
       obtain ⟨e, he, hp⟩ := this
       have hlt := (List.pairwise_append.1 hA).2.2 e (List.mem_of_find?_eq_some he) d (List.mem_singleton.2 rfl)
       rw [hp] at hlt
       have : ¬ ltC d.p st.fa.1 := fun h => dR _ (er h hlt)
       simp [this, hb]
   · rw [if_neg hc, List.find?_cons_of_neg (by rw [decide_eq_true_eq]; exact hc)]
     simp
theorem uY (x : br) (hok : ew x.objs.l x.kp.l) (lb bl bo : Nat) (L : List Dfn) (st : CS) (mM : ByteArray → Option aD) (hF : kP x L st mM) (SV : ByteArray → ByteArray → Bool) (hSV : ∀ p q, SV p q = true ↔ Srv x.vs.l p q) (vo : Value) (a b : Nat) (M : List Dfn) (d : Dfn) (hd : InD x.objs.l d) (hlen : M.length < 70) (hpre : ∃ N, aW x.objs.l = (M ++ [d]) ++ N)
   (t : BS) (hI : ju (bS x.kp.l L SV (cA x.ifs.l) x.lib) M t) :
   Con Tryz.prog 37 [d.p.val, d.s.val, .pointer (some ⟨bl, 0, none⟩), .pointer (some ⟨a, 0, none⟩), .pointer (some ⟨b, 0, none⟩), .pointer (some ⟨bo, 0, none⟩)] [At bl 0 [.v (.pointer (some ⟨lb, 0, none⟩))], At bo 0 [.v vo], At lb 0 x.row, x.ok, x.fin L st mM] (ru vo a b x.objs.l.length t)
     fun _ ps hp => ps = [] ∧ ∃ y, ju (bS x.kp.l L SV (cA x.ifs.l) x.lib) (M ++ [d]) y ∧ hp = ru vo a b x.objs.l.length y := by
 obtain ⟨i, k, hi, hk, hpd⟩ := hd
 have hpo : d.p.obj = (i : Int) := by rw [hpd]
 refine Con.conv (R := fun _ ps hp => ps = [] ∧ ∃ (s : Sl aO) (fa : aD × Bool) (v : Value) (rows : List (List D)), ju (bS x.kp.l L SV (cA x.ifs.l) x.lib) (M ++ [d]) ⟨cC t.mC i s, fa⟩ ∧ v = s.val ∧ rows = s.l.map aO.row ∧
   hp = [bA vo 66 1 (ix (cC t.mC i s) x.objs.l.length), dS 65 6 aO.row (lM t.mC i), Box a 34 fa.1.vs, Box b 4 [.bool fa.2], bA v 65 6 rows]) ?_ fun _ ps' hp' ⟨h1, s, fa, v, rows, hc, hv, hr, h⟩ => ?_
 rotate_left
 · subst h1 h
   refine ⟨_, _, (StE.put (row := aO.row) 1 4 i s rfl rfl hv hr (gP _ _) rfl).trans (StE.keep [] [0, 1, 2, 3] rfl), rfl, ⟨cC t.mC i s, fa⟩, hc, ?_⟩
   rw [iO]; rfl
 have hA : Asc (M ++ [d]) := by
   obtain ⟨N, hN⟩ := hpre
   have := ed x.objs.l x.objs.l.length
   rw [show bQ x.objs.l x.objs.l.length = aW x.objs.l from rfl, hN] at this
   exact (List.pairwise_append.1 this).1
 have hlC : ((cn t.mC i).l).length ≤ 70 := by
   rw [hI.rows, List.length_map]
   exact Nat.le_trans (List.length_filter_le _ _) (by omega)
 refine Con.enter Tryz.func37 rfl (by simp [Tryz.ntmps37]) ?_
 show awp _ _ _ _ ⟨[(0, true, _), (1, true, _), (2, true, _), (3, true, _), (4, true, _), (5, true, _)], _, _⟩
 refine aSR ?_
 refine aj (q := true) rfl (bI rfl rfl rfl (fun b0_0 => ?_))
 refine aHN ?_
 refine aj (q := true) rfl (bI rfl rfl rfl (fun b0_1 => ?_))
 refine aHN ?_
 refine aNn (aSR (aU rfl (aN (o := 0) tk101 rfl (.of (an 0 rfl)) rfl) (aU rfl (ab 4 tk34 rfl rfl rfl) (aU rfl (ab 5 tk63 rfl rfl rfl) ?_))))
 refine aj (q := true) rfl (bF [2, 1, 0] [] (by kernel_rfl) rfl rfl rfl rfl (rV x hok lb L st mM hF SV hSV d ⟨i, k, hi, hk, hpd⟩) ?_)
 rintro _ _ _ ⟨rfl, rfl, c, rfl, hc⟩
 refine aST ?_
 refine aM rfl (aU rfl (bc rfl rfl) (aU rfl (bc rfl rfl) ?_))
 refine aj (q := true) rfl (bp (zs := [.int .i64 0, .int .i64 0, .int .i64 0, .int .i64 0, .int .i64 0, .bool false]) (by kernel_rfl) rfl (fun b1_7 => ?_))
 refine aHN ?_
 refine aj rfl (aT 6 tk65 rfl rfl rfl rfl ?_)
 refine aHK ?_
 refine aA rfl (aNs (aSR (aM rfl (aU rfl (bT rfl) (aNn ?_)))))
 refine ah _ rfl (fun h1 => ?_) (fun h1 => ?_)
 ·skip
  have hcn : bS x.kp.l L SV (cA x.ifs.l) x.lib d = none := by
    cases hh : bS x.kp.l L SV (cA x.ifs.l) x.lib d with
    | none => rfl
    | some c => rw [hh] at h1; cases h1
  refine ae (aU rfl (ab 4 tk34 rfl rfl rfl) ?_)
  refine aj (q := false) rfl (bF [] [2, 3] (by kernel_rfl) rfl rfl rfl rfl (iZ a b t.fa d.p) ?_)
  rintro _ _ _ ⟨rfl, rfl⟩
  refine aST ?_
  refine aNn (fP (row := aO.row) 1 i rfl ?_)
  refine ec [10, 12] [12] [b0_0, b1_7] (by kernel_rfl) ?_
  show aC _ _ _ _ _ _ _ 13 #[false, false, false, false, false, false, false, false, false, false, false, false, false] _
  refine cX 0 rfl (by kernel_rfl) true rfl rfl (fun _ => aN (o := 0) tk31 rfl (.of (an 1 rfl)) rfl) ?_
  refine cX 1 rfl (by kernel_rfl) true rfl rfl (fun _ => qFA (off := 0) rfl) ?_
  refine eU 2 4 rfl (by kernel_rfl) true rfl rfl (by simp) tk3 (fun _ => rfl) rfl rfl ?_
  refine cX 3 rfl (by kernel_rfl) true rfl rfl (fun _ => aN (o := 0) tk31 rfl (.of (an 1 rfl)) rfl) ?_
  refine cX 4 rfl (by kernel_rfl) true rfl rfl (fun _ => qFA (off := 0) rfl) ?_
  refine eU 5 4 rfl (by kernel_rfl) true rfl rfl (by simp) tk3 (fun _ => rfl) rfl rfl ?_
  refine l9 6 rfl (by kernel_rfl) true rfl rfl (fun _ => dV 0 i el31 rfl rfl rfl hpo (by rw [fM]; exact hi)) ?_
  refine l9 7 rfl (by kernel_rfl) true rfl rfl (fun _ => ez 0 i 0 tk66 rfl rfl (gU _ hi) rfl rfl) ?_
  refine eU 8 6 rfl (by kernel_rfl) true rfl rfl (by simp) tk65 (fun _ => rfl) rfl rfl ?_
  refine cz 9 [] (by kernel_rfl) (bO ?_ cm)
  refine cM 9 rfl rfl (Eff.x ?_)
  refine id (cG (zs := [.int .i64 0, .int .i64 0, .int .i64 0, .int .i64 0, .int .i64 0, .bool false]) (l := [(0, .tmp 29)]) el66 (by kernel_rfl) (by decide) (by decide) (by decide) rfl rfl rfl (.more rfl (.v rfl (.v rfl (.v rfl (.v rfl (.v rfl (.v rfl .nil)))))) .nil) rfl rfl (fun v4_9 => ?_))
  refine dy (by (try simp only [nO, nK, nL]); rfl) (by (try simp only [nM, nN]); rfl) (by (try simp only [bX, nQ, nR, dt, place, Nat.reduceBEq, if_true, if_false, reduceIte, Nat.reduceAdd, nW]); rfl) ?_
  refine cz 10 [] (by kernel_rfl) (bO ?_ cm)
  refine cM 10 rfl rfl (Eff.framed (q := false) [7, 8] rfl rfl (fJ 4 rfl rfl (fJ 6 rfl rfl ji)) ?_)
  refine id (cE 0 el66 rfl rfl rfl rfl (dH 1 el66 rfl (by simp)) (by first | assumption | simp) (by show ((cn t.mC i).l.map aO.row).length + 1 ≤ _; rw [List.length_map]; exact Nat.le_trans (Nat.add_le_add_right hlC 1) (by decide)) (((cn t.mC i).l ++ [c]).length) (by show ((cn t.mC i).l.map aO.row).length + 1 = _; rw [List.length_map, List.length_append]; rfl) (fun v4_10 c4_10 => ?_))
  refine gn ?_
  refine dy (by (try simp only [nO, nK, nL]); rfl) (by (try simp only [nM, nN]); rfl) (by (try simp only [bX, nQ, nR, dt, place, Nat.reduceBEq, if_true, if_false, reduceIte, Nat.reduceAdd, nW]); rfl) ?_
  refine l9 11 rfl (by kernel_rfl) true rfl rfl (fun _ => dV 0 i el31 rfl rfl rfl hpo (by rw [fM]; exact hi)) ?_
  refine cz 12 [] (by kernel_rfl) (bO ?_ cm)
  refine cM 12 rfl rfl (Eff.wild (q := false) ?_)
  refine gT 0 i 0 tk66 rfl rfl rfl (gU _ hi) rfl (.v rfl .nil) rfl (by decide) ?_
  refine dy (by (try simp only [nO, nK, nL]); rfl) (by (try simp only [nM, nN]); rfl) (by (try simp only [bX, nQ, nR, dt, place, Nat.reduceBEq, if_true, if_false, reduceIte, Nat.reduceAdd, nW]); rfl) ?_
  refine gu (by kernel_rfl) ?_
  refine iL [] [0, 1, 2, 3, 7] rfl Tryz.results37 ?_ (.inl rfl)
  exact ⟨rfl, ⟨v4_10, c4_10, (cn t.mC i).l ++ [c]⟩, _, _, _, hI.step hpo hA (by rw [hc]) (by rw [if_pos hcn]), rfl, (by rw [List.map_append]), by rw [← qp]; rfl⟩
 ·skip
  have hcn : ¬ bS x.kp.l L SV (cA x.ifs.l) x.lib d = none := fun hh => by rw [hh] at h1; cases h1
  refine au (av (fP (row := aO.row) 1 i rfl ?_))
  refine ec [10, 12] [12] [b0_0, b1_7] (by kernel_rfl) ?_
  show aC _ _ _ _ _ _ _ 13 #[false, false, false, false, false, false, false, false, false, false, false, false, false] _
  refine cX 0 rfl (by kernel_rfl) true rfl rfl (fun _ => aN (o := 0) tk31 rfl (.of (an 1 rfl)) rfl) ?_
  refine cX 1 rfl (by kernel_rfl) true rfl rfl (fun _ => qFA (off := 0) rfl) ?_
  refine eU 2 4 rfl (by kernel_rfl) true rfl rfl (by simp) tk3 (fun _ => rfl) rfl rfl ?_
  refine cX 3 rfl (by kernel_rfl) true rfl rfl (fun _ => aN (o := 0) tk31 rfl (.of (an 1 rfl)) rfl) ?_
  refine cX 4 rfl (by kernel_rfl) true rfl rfl (fun _ => qFA (off := 0) rfl) ?_
  refine eU 5 4 rfl (by kernel_rfl) true rfl rfl (by simp) tk3 (fun _ => rfl) rfl rfl ?_
  refine l9 6 rfl (by kernel_rfl) true rfl rfl (fun _ => dV 0 i el31 rfl rfl rfl hpo (by rw [fM]; exact hi)) ?_
  refine l9 7 rfl (by kernel_rfl) true rfl rfl (fun _ => ez 0 i 0 tk66 rfl rfl (gU _ hi) rfl rfl) ?_
  refine eU 8 6 rfl (by kernel_rfl) true rfl rfl (by simp) tk65 (fun _ => rfl) rfl rfl ?_
  refine cz 9 [] (by kernel_rfl) (bO ?_ cm)
  refine cM 9 rfl rfl (Eff.x ?_)
  refine id (cG (zs := [.int .i64 0, .int .i64 0, .int .i64 0, .int .i64 0, .int .i64 0, .bool false]) (l := [(0, .tmp 29)]) el66 (by kernel_rfl) (by decide) (by decide) (by decide) rfl rfl rfl (.more rfl (.v rfl (.v rfl (.v rfl (.v rfl (.v rfl (.v rfl .nil)))))) .nil) rfl rfl (fun v4_9 => ?_))
  refine dy (by (try simp only [nO, nK, nL]); rfl) (by (try simp only [nM, nN]); rfl) (by (try simp only [bX, nQ, nR, dt, place, Nat.reduceBEq, if_true, if_false, reduceIte, Nat.reduceAdd, nW]); rfl) ?_
  refine cz 10 [] (by kernel_rfl) (bO ?_ cm)
  refine cM 10 rfl rfl (Eff.framed (q := false) [7, 8] rfl rfl (fJ 4 rfl rfl (fJ 6 rfl rfl ji)) ?_)
  refine id (cE 0 el66 rfl rfl rfl rfl (dH 1 el66 rfl (by simp)) (by first | assumption | simp) (by show ((cn t.mC i).l.map aO.row).length + 1 ≤ _; rw [List.length_map]; exact Nat.le_trans (Nat.add_le_add_right hlC 1) (by decide)) (((cn t.mC i).l ++ [c]).length) (by show ((cn t.mC i).l.map aO.row).length + 1 = _; rw [List.length_map, List.length_append]; rfl) (fun v4_10 c4_10 => ?_))
  refine gn ?_
  refine dy (by (try simp only [nO, nK, nL]); rfl) (by (try simp only [nM, nN]); rfl) (by (try simp only [bX, nQ, nR, dt, place, Nat.reduceBEq, if_true, if_false, reduceIte, Nat.reduceAdd, nW]); rfl) ?_
  refine l9 11 rfl (by kernel_rfl) true rfl rfl (fun _ => dV 0 i el31 rfl rfl rfl hpo (by rw [fM]; exact hi)) ?_
  refine cz 12 [] (by kernel_rfl) (bO ?_ cm)
  refine cM 12 rfl rfl (Eff.wild (q := false) ?_)
  refine gT 0 i 0 tk66 rfl rfl rfl (gU _ hi) rfl (.v rfl .nil) rfl (by decide) ?_
  refine dy (by (try simp only [nO, nK, nL]); rfl) (by (try simp only [nM, nN]); rfl) (by (try simp only [bX, nQ, nR, dt, place, Nat.reduceBEq, if_true, if_false, reduceIte, Nat.reduceAdd, nW]); rfl) ?_
  refine gu (by kernel_rfl) ?_
  refine iL [] [0, 1, 2, 3, 7] rfl Tryz.results37 ?_ (.inl rfl)
  exact ⟨rfl, ⟨v4_10, c4_10, (cn t.mC i).l ++ [c]⟩, _, _, _, hI.step hpo hA (by rw [hc]) (by rw [if_neg hcn]), rfl, (by rw [List.map_append]), by rw [← qp]; rfl⟩
end Go.Proofs.YtgmiihmahaahiaaGreatDoor

