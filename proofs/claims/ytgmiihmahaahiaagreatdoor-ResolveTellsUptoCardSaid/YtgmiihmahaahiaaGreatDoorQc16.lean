/- Parts of the proof, in build order. No condition. -/
import Derived.Test.YtgmiihmahaahiaaGreatDoorQc15
import Derived.Test.YtgmiihmahaahiaaGreatDoorQc03
import Derived.Test.YtgmiihmahaahiaaGreatDoorQc06
import Derived.Test.YtgmiihmahaahiaaGreatDoorQc14
set_option linter.unusedSimpArgs false
set_option linter.unusedVariables false
set_option maxHeartbeats 1000000
set_option maxRecDepth 20000
namespace Go.Sy
open Go.RowKit Go.Lp
section
variable {P : Program} {n : Fr} {d : Option Tmp} {ty : TypeId} {pos : String} {af : Array Edge} {gd : Option (Nat × Bool)} {s : Sta} {x y : Operand} {t t' : TypeId} {a b : ByteArray}
theorem tj (hx : ev s.env x = some (true, .string a)) (hy : ev s.env y = some (true, .string b)) : Quiet P n ⟨d, .binOp .lss t x y t', ty, pos, af, gd⟩ s (.bool (decide (a.toList < b.toList))) := rL hx hy
theorem zX {ops : Array Oper} {Q : Exit → Sta → Prop} {env : Env} {ps : List Per} {hp : List Res} {d : Nat} {op : Op} {rest : List Oper} {β : Type} {v : β → Value} {p1 : β → Per} (hc : guardOf ops env ⟨some d, op, ty, pos, af, gd⟩ = some true) (hd : fits n (some d) = true) (hq : gZ P n ⟨some d, op, ty, pos, af, gd⟩ ⟨env, ps, hp⟩ v (fun x => [p1 x]))
   (h : ∀ x, aL P n ops Q rest ⟨(d, true, v x) :: env, p1 x :: ps, hp⟩) : aL P n ops Q (⟨some d, op, ty, pos, af, gd⟩ :: rest) ⟨env, ps, hp⟩ :=
 ck true hc hd (fun _ => hq) (fun h => absurd h (by decide)) fun x => rD (fun p hp => by
   rcases List.mem_cons.1 hp with rfl | hp
   · exact fun w S hps => hps _ List.mem_cons_self rfl
   · exact fun w S hps => hps p (List.mem_cons_of_mem _ hp)) (h x)
end
end Go.Sy
namespace Go.Proofs.YtgmiihmahaahiaaGreatDoor
open Go.RowKit Go.Lp Go.Sy
open Go.Proofs.Tryz
attribute [local irreducible] aL aB awp aC fwp
theorem tu {O : List bk} {q : bk} {m : Nat} : (decide ((m : Int) < (O.length : Int)) && (decide ((elt O (m : Int)).name.toList < q.name.toList) || decide ((elt O (m : Int)).name = q.name) && decide ((elt O (m : Int)).version.toList < q.version.toList))) = true ↔ m < O.length ∧ kLt (elt O (m : Int)).key q.key := by
 unfold kLt sLt
 simp only [Bool.and_eq_true, Bool.or_eq_true, decide_eq_true_eq, Int.ofNat_lt]
theorem sT (x : bk) : ∀ (l : List bk) (m : Nat), (∀ y ∈ l.take m, kLt y.key x.key) → (∀ y, l[m]? = some y → ¬ kLt y.key x.key) → gY x l = (l.take m ++ [x]) ++ l.drop m
 | [], m, _, _ => by simp [gY]
 | y :: l, 0, _, h => by unfold gY; rw [if_neg (h y rfl)]; rfl
 | y :: l, m + 1, h1, h2 => by
   unfold gY
   rw [if_pos (h1 y (by simp)), sT x l m (fun z hz => h1 z (by simp [hz])) (fun z hz => h2 z (by simpa using hz))]
   rfl
def pZ (kp : List (Sl Bool)) (L : List Dfn) (d : Dfn) : Bool := fD kp L d && decide (fB L d.s.name ≠ 2)
def lN (kp : List (Sl Bool)) (L M : List Dfn) : List bk := (M.filter (pZ kp L)).foldl (fun o d => gY (jg d) o) []
section
variable {kp : List (Sl Bool)} {L M : List Dfn} {d : Dfn}
theorem wY (h : pZ kp L d = true) : lN kp L (M ++ [d]) = gY (jg d) (lN kp L M) := by
 unfold lN; rw [List.filter_append, List.foldl_append, List.filter_cons_of_pos h]; rfl
theorem yv (h : pZ kp L d = false) : lN kp L (M ++ [d]) = lN kp L M := by
 unfold lN; rw [List.filter_append, List.foldl_append, List.filter_cons_of_neg (by rw [h]; decide)]; rfl
theorem vM : (lN kp L M).length ≤ M.length := by
 unfold lN
 have key : ∀ (l : List Dfn) (o : List bk), (l.foldl (fun o d => gY (jg d) o) o).length = o.length + l.length := by
   intro l
   induction l with
   | nil => intro o; rfl
   | cons d l ih => intro o; rw [List.foldl_cons, ih, pI, List.length_cons]; omega
 rw [key]; have := List.length_filter_le (pZ kp L) M; simp; omega
end
theorem wJ (x : br) (hok : ew x.objs.l x.kp.l) : Con Tryz.prog 19 [x.objs.val, x.kp.val] [x.ok] [] fun r ps hp => hp = [] ∧ ∃ S : Sl bk, r = S.val ∧ S.l = qS x.kp.l (aW x.objs.l) ∧ ps = [ShF bk.row S] := by
 have hn5 := hok.n
 have hfl := gW hok
 have hpre : ∀ (i k : Nat) (o : ax), i < x.objs.l.length → elt x.objs.l (i : Int) = o → (bQ x.objs.l i ++ cu (i : Int) (o.syms.l.take k)).length ≤ 70 := fun i k o hi ho => by
   obtain ⟨M, hM⟩ := gj x.objs.l (i := i + 1) (n := x.objs.l.length) (by omega)
   obtain ⟨M2, hM2⟩ := iB (i : Int) o.syms.l k
   have : aW x.objs.l = (bQ x.objs.l i ++ cu (i : Int) (o.syms.l.take k)) ++ (M2 ++ M) := by
     unfold aW; rw [hM, cq, ho, hM2]; simp
   rw [this, List.length_append] at hfl; omega
 refine Con.enter Tryz.func19 rfl (by simp [Tryz.ntmps19]) ?_
 show awp _ _ _ _ ⟨[(0, true, _), (1, true, _)], _, _⟩
 refine aSR (aA rfl (aNn (aSR (aA rfl ?_))))
 refine aNs (az (eb 47 7 ?_))
 show awp _ _ _ _ ⟨_, _, [_]⟩
 refine ae (aA rfl (aNn (aw (aP [0, 1, 5, 6] [0] [0] (fun (p : Nat × Value) st => p.1 ≤ x.objs.l.length ∧ st = ⟨[(0, true, x.objs.val), (1, true, x.kp.val), (5, true, p.2), (6, true, .int .i64 p.1)], [x.ok], [bA p.2 47 7 ((lN x.kp.l (aW x.objs.l) (bQ x.objs.l p.1)).map bk.row)]⟩) (fun p => x.objs.l.length - p.1) rfl (⟨(0, .slice none 0 0), Nat.zero_le _, rfl⟩) ?_))))
 rintro ⟨i, v⟩ st ⟨hi, rfl⟩
 dsimp only at hi
 refine az (aSR (aM rfl (aM rfl (aU rfl (aZ Tryz.underlying22 rfl) (aU rfl (bt rfl rfl) (aNn ?_))))))
 refine ah _ rfl (fun h1 => ?_) (fun h1 => ?_)
 ·skip
  have hi' : i < x.objs.l.length := by simp at h1; omega
  have ho := bN hi'
  have hpre := hpre i
  generalize hoo : elt x.objs.l (i : Int) = o at ho
  have ho14 := hok.sy o (List.mem_of_getElem? ho)
  refine au (av (az (aw (aSR (aA rfl (aNn (aw ?_)))))))
  refine aP [0, 1, 5, 6, 7] [0] [0] (fun (p : Nat × Value) st => p.1 ≤ o.syms.l.length ∧ st = ⟨[(0, true, x.objs.val), (1, true, x.kp.val), (5, true, p.2), (6, true, .int .i64 i), (7, true, .int .i64 p.1)], [x.ok], [bA p.2 47 7 ((lN x.kp.l (aW x.objs.l) (bQ x.objs.l i ++ cu (i : Int) (o.syms.l.take p.1))).map bk.row)]⟩) (fun p => o.syms.l.length - p.1) rfl (⟨(0, v), Nat.zero_le _, by dsimp only; rw [List.take_zero, show cu (i : Int) [] = [] from rfl, List.append_nil]; rfl⟩) ?_
  rintro ⟨k, v2⟩ st ⟨hk, rfl⟩
  dsimp only at hk
  refine az (aSR (aM rfl (aM rfl (aM rfl ?_))))
  refine ck true rfl rfl (fun _ => ai Tryz.underlying22 tk61 rfl ((br.f_objs (.of (an 0 rfl)))) rfl (aJ ho) rfl rfl) (fun h => absurd h (by decide)) (fun ⟨b6_3, o6_3⟩ => ?_)
  refine aU rfl (qFA (off := 2) rfl) ?_
  refine aU rfl (aF (o := 2) tk51 rfl (an 0 rfl) rfl rfl) (aU rfl (aZ Tryz.underlying51 rfl) (aU rfl (bt rfl rfl) (aNn ?_)))
  refine ah _ rfl (fun h2 => ?_) (fun h2 => ?_)
  ·skip
   have hk' : k < o.syms.l.length := by simp at h2; omega
   obtain ⟨s, hsk⟩ : ∃ s, o.syms.l[k]? = some s := ⟨_, List.getElem?_eq_getElem hk'⟩
   have hlM := hpre k o hi' hoo
   have hlO := Nat.le_trans (vM (kp := x.kp.l) (L := aW x.objs.l) (M := bQ x.objs.l i ++ cu (i : Int) (o.syms.l.take k))) hlM
   have hyes := wY (kp := x.kp.l) (L := aW x.objs.l) (M := bQ x.objs.l i ++ cu (i : Int) (o.syms.l.take k)) (d := ⟨⟨(i : Int), (k : Int)⟩, s⟩)
   have hno := yv (kp := x.kp.l) (L := aW x.objs.l) (M := bQ x.objs.l i ++ cu (i : Int) (o.syms.l.take k)) (d := ⟨⟨(i : Int), (k : Int)⟩, s⟩)
   rw [List.append_assoc, ← dz hsk] at hyes hno
   generalize lN x.kp.l (aW x.objs.l) (bQ x.objs.l i ++ cu (i : Int) (o.syms.l.take k)) = O at hlO hyes hno
   refine au (av (az (aw (aSR (aM rfl (aM rfl ?_))))))
   refine ck true rfl rfl (fun _ => ai Tryz.underlying22 tk61 rfl ((br.f_objs (.of (an 1 rfl)))) rfl (aJ ho) rfl rfl) (fun h => absurd h (by decide)) (fun ⟨b8_2, o8_2⟩ => ?_)
   refine aU rfl (qFA (off := 2) rfl) ?_
   refine aU rfl (aF (o := 2) tk51 rfl (an 0 rfl) rfl rfl) (aM rfl ?_)
   refine ck true rfl rfl (fun _ => ai Tryz.underlying51 tk63 rfl ((ax.f_syms (Ent.all (br.f_objsA (.of (an 2 rfl))) ho))) rfl (aJ hsk) rfl rfl) (fun h => absurd h (by decide)) (fun ⟨b8_6, o8_6⟩ => ?_)
   refine aU rfl (aF (o := 0) tk63 rfl (an 0 rfl) rfl rfl) ?_
   refine aj (q := true) rfl (bp (zs := [.string .empty, .string .empty, .bool false, .int .i64 0, .int .i64 0, .int .i64 0, .int .i64 0, .int .i64 0, .int .i64 0, .int .i64 0]) (by kernel_rfl) rfl (fun b8_8 => ?_))
   refine aHN ?_
   refine aj rfl (aT 1 tk63 rfl rfl rfl rfl ?_)
   refine aHK ?_
   refine aNs (aSR (aM rfl (aM rfl (aM rfl (aM rfl ?_)))))
   refine aU rfl (bw (by kernel_rfl) rfl (fun w S fp hst => (pE x hok i k o s ho hsk).quiet1 (an 3 rfl) hst)) ?_
   refine aU rfl (bT rfl) (aM rfl (aG rfl rfl (fun hc => ar rfl) ?_))
   refine aG rfl rfl (fun hc => qFA (off := 0) rfl) ?_
   refine aG rfl rfl (fun hc => ab 1 tk9 (aa rfl hc) rfl rfl) ?_
   refine aG rfl rfl (fun hc => bw (by kernel_rfl) (aI (aa rfl hc) (aI (aa rfl hc) rfl)) (fun w S fp hst => (ja x hok s.name).quiet1 (an 3 rfl) hst)) ?_
   refine aG rfl rfl (fun hc => bB (aa rfl hc) rfl) (aU rfl (ct rfl rfl (fun h => gf rfl h)) (aNn ?_))
   refine ah _ rfl (fun h3 => ?_) (fun h3 => ?_)
   ·skip
    have hx : pZ x.kp.l (aW x.objs.l) ⟨⟨(i : Int), (k : Int)⟩, s⟩ = false := by
      unfold pZ; rw [Bool.and_eq_false_iff]
      simpa using h3
    refine aR (aS (aY (av (ae (aM rfl ?_)))))
    refine aU rfl (bf rfl rfl (by omega)) ?_
    refine aA rfl (aNn ?_)
    refine ⟨[0, 1, 5, 6, 7], [0], [0], rfl, ?_⟩
    exact ⟨(k + 1, v2), ⟨by dsimp only; omega, by dsimp only; rw [hno hx]; rfl⟩, by dsimp only; omega⟩
   ·skip
    have hx : pZ x.kp.l (aW x.objs.l) ⟨⟨(i : Int), (k : Int)⟩, s⟩ = true := by
      unfold pZ; rw [Bool.and_eq_true_iff]
      simpa using h3
    have hyes := hyes hx
    generalize hof : jg ⟨⟨(i : Int), (k : Int)⟩, s⟩ = q at hyes
    refine au (av (aSR ?_))
    refine aU rfl (qFA (off := 0) rfl) ?_
    refine aU rfl (ab 1 tk9 rfl rfl rfl) ?_
    refine aU rfl (qFA (off := 1) rfl) ?_
    refine aU rfl (ab 1 tk9 rfl rfl rfl) ?_
    refine aU rfl (qFA (off := 1) rfl) ?_
    refine aU rfl (ab 1 tk9 rfl rfl rfl) (aU rfl (cZ rfl rfl) (aM rfl ?_))
    refine aG rfl rfl (fun hc => qFA (off := 2) rfl) ?_
    refine aG rfl rfl (fun hc => ab 1 tk4 (aa rfl hc) rfl rfl) (aU rfl (ct rfl rfl (fun h => gf rfl h)) ?_)
    refine aU rfl (qFA (off := 5) rfl) ?_
    refine aU rfl (ab 1 tk3 rfl rfl rfl) (aM rfl (aM rfl ?_))
    refine aU rfl (qFA (off := 3) rfl) ?_
    refine aU rfl (ab 1 tk3 rfl rfl rfl) (aU rfl (bB rfl rfl) ?_)
    refine aU rfl (cU (l := [(0, .tmp 50), (1, .tmp 52), (2, .tmp 59), (3, .tmp 61), (4, .tmp 62), (5, .tmp 63), (6, .tmp 66)]) (zs := [.string .empty, .string .empty, .bool false, .int .i64 0, .int .i64 0, .int .i64 0, .bool false]) (pl := [(0, 1), (1, 1), (2, 1), (3, 1), (4, 1), (5, 1), (6, 1)]) (by kernel_rfl) (by kernel_rfl) (by kernel_rfl) rfl rfl rfl) ?_
    refine aj (q := true) rfl (bp (zs := [.string .empty, .string .empty, .bool false, .int .i64 0, .int .i64 0, .int .i64 0, .bool false]) (by kernel_rfl) rfl (fun b10_19 => ?_))
    refine aHN ?_
    refine aj rfl (aT 2 tk47 rfl rfl rfl rfl ?_)
    refine aHK ?_
    refine aNs (dr 0 rfl ?_)
    refine fo (.of (an 0 rfl)) (fun al cl hvl => ?_)
    rw [List.length_map] at hvl
    subst hvl
    refine ae (aA rfl (aNs (aw ?_)))
    refine aP [0, 1, 5, 6, 7, 9, 10] [4, 0] [2] (fun (m : Nat) st => (m ≤ O.length ∧ ∀ y ∈ O.take m, kLt y.key q.key) ∧ st = ⟨[(0, true, x.objs.val), (1, true, x.kp.val), (5, true, .slice al O.length cl), (6, true, .int .i64 i), (7, true, .int .i64 k), (9, true, .pointer (some ⟨b10_19, 0, none⟩)), (10, true, .int .i64 m)], [Sh (.slice al O.length cl) (.sl (O.map bk.row)), x.ok], [Box b10_19 47 q.vs]⟩) (fun m => O.length - m) rfl (⟨0, ⟨Nat.zero_le _, fun y hy => by simp at hy⟩, by rw [← hof]; rfl⟩) ?_
    rintro m st ⟨⟨hm, hlt⟩, rfl⟩
    refine az (az ?_)
    refine aX [] (by kernel_rfl) ?_
    show aB _ _ _ _ _ 34 #[false, false, false, false, false, false, false, false, false, false, false, false, false, false, false, false, false, false, false, false, false, false, false, false, false, false, false, false, false, false, false, false, false, false] _
    refine bV 0 rfl rfl (ar rfl) ?_
    refine bV 1 rfl rfl (ar rfl) ?_
    refine bV 2 rfl rfl (aZ Tryz.underlying43 rfl) ?_
    refine bV 3 rfl rfl (bt rfl rfl) ?_
    refine bV 4 rfl rfl (ar rfl) ?_
    refine bW 5 rfl rfl rfl (fun hc => ar rfl) ?_
    refine bW 6 rfl rfl rfl (fun hc => ar rfl) ?_
    refine cD 7 rfl (by kernel_rfl) _ rfl rfl (fun hc => ai Tryz.underlying43 tk47 (aa rfl hc) ((.of (an 0 rfl))) (aa rfl hc) (cR (i := (m : Int)) (by simp at hc; omega) (by omega)) rfl rfl) (fun _ => ⟨(0, 0)⟩) (fun ⟨b12_7, o12_7⟩ => ?_)
    refine bW 8 rfl rfl rfl (fun hc => qFA (off := 0) (aa rfl hc)) ?_
    refine bW 9 rfl rfl rfl (fun hc => aF (o := 0) tk9 (aa rfl hc) (an 0 rfl) hc rfl) ?_
    refine bW 10 rfl rfl rfl (fun hc => qFA (off := 0) rfl) ?_
    refine bW 11 rfl rfl rfl (fun hc => ab 0 tk9 (aa rfl hc) rfl rfl) ?_
    refine bW 12 rfl rfl rfl (fun hc => tj (aa rfl hc) (aa rfl hc)) ?_
    refine bW 13 rfl rfl rfl (fun hc => ar (aa rfl hc)) ?_
    refine bW 14 rfl rfl rfl (fun hc => ar rfl) ?_
    refine bW 15 rfl rfl rfl (fun hc => ar rfl) ?_
    refine cD 16 rfl (by kernel_rfl) _ rfl rfl (fun hc => ai Tryz.underlying43 tk47 (aa rfl hc) ((.of (an 1 rfl))) (aa rfl hc) (cR (i := (m : Int)) (by simp at hc; omega) (by omega)) rfl rfl) (fun _ => ⟨(0, 0)⟩) (fun ⟨b12_16, o12_16⟩ => ?_)
    refine bW 17 rfl rfl rfl (fun hc => qFA (off := 0) (aa rfl hc)) ?_
    refine bW 18 rfl rfl rfl (fun hc => aF (o := 0) tk9 (aa rfl hc) (an 0 rfl) hc rfl) ?_
    refine bW 19 rfl rfl rfl (fun hc => qFA (off := 0) rfl) ?_
    refine bW 20 rfl rfl rfl (fun hc => ab 0 tk9 (aa rfl hc) rfl rfl) ?_
    refine bW 21 rfl rfl rfl (fun hc => cZ (aa rfl hc) (aa rfl hc)) ?_
    refine bW 22 rfl rfl rfl (fun hc => ar (aa rfl hc)) ?_
    refine bW 23 rfl rfl rfl (fun hc => ar rfl) ?_
    refine bW 24 rfl rfl rfl (fun hc => ar rfl) ?_
    refine cD 25 rfl (by kernel_rfl) _ rfl rfl (fun hc => ai Tryz.underlying43 tk47 (aa rfl hc) ((.of (an 2 rfl))) (aa rfl hc) (cR (i := (m : Int)) (by simp at hc; omega) (by omega)) rfl rfl) (fun _ => ⟨(0, 0)⟩) (fun ⟨b12_25, o12_25⟩ => ?_)
    refine bW 26 rfl rfl rfl (fun hc => qFA (off := 1) (aa rfl hc)) ?_
    refine bW 27 rfl rfl rfl (fun hc => aF (o := 1) tk9 (aa rfl hc) (an 0 rfl) hc rfl) ?_
    refine bW 28 rfl rfl rfl (fun hc => qFA (off := 1) rfl) ?_
    refine bW 29 rfl rfl rfl (fun hc => ab 0 tk9 (aa rfl hc) rfl rfl) ?_
    refine bW 30 rfl rfl rfl (fun hc => tj (aa rfl hc) (aa rfl hc)) ?_
    refine bW 31 rfl rfl rfl (fun hc => bn (aa rfl hc) rfl (fun h => gt hc h)) ?_
    refine bW 32 rfl rfl rfl (fun hc => ct (aa rfl hc) rfl (fun h => gf hc h)) ?_
    refine bV 33 rfl rfl (bn rfl rfl (fun h => gt rfl h)) ?_
    refine bD (by kernel_rfl) ?_
    refine av ?_
    refine ah _ rfl (fun h4 => ?_) (fun h4 => ?_)
    ·skip
     obtain ⟨hm', hlq⟩ := tu.1 h4
     refine au (av (aw (ae (aM rfl ?_))))
     refine aU rfl (bf rfl rfl (by omega)) ?_
     refine aA rfl (cr (bu (av ?_)))
     refine ⟨[0, 1, 5, 6, 7, 9, 10], [1, 0], [0], rfl, ?_⟩
     refine ⟨m + 1, ⟨⟨by omega, fun y hy => ?_⟩, rfl⟩, by omega⟩
     rw [List.take_add_one, bN hm'] at hy
     rcases List.mem_append.1 hy with hy | hy
     · exact hlt y hy
     · simp at hy; rw [hy]; exact hlq
    ·skip
     have hins : gY q O = (O.take m ++ [q]) ++ O.drop m := sT q O m hlt fun y hy hk => by
       have := tu.2 ⟨(List.getElem?_eq_some_iff.1 hy).1, (show kLt (elt O (m : Int)).key q.key from by rw [kg hy]; exact hk)⟩
       rw [h4] at this; cases this
     have hmA : m ≤ (O.map bk.row).length := by rw [List.length_map]; exact hm
     have hrl : ∀ r ∈ O.map bk.row, r.length = 7 := fun r hr => by obtain ⟨y, _, rfl⟩ := List.mem_map.1 hr; rfl
     have htl : ((O.map bk.row).take m).length = m := by rw [List.length_take]; omega
     have hdl : ((O.map bk.row).drop m).length = O.length - m := by rw [List.length_drop, List.length_map]
     refine aR (aS (aS (aY (av (aSR ?_)))))
     refine aj (q := true) rfl (oO el43 rfl (fun v14_0 => ?_))
     refine aHN ?_
     refine aM rfl (aM rfl ?_)
     refine zX rfl rfl (uV m (O.length - m) el43 rfl (an 3 rfl) rfl rfl hmA hrl (by rw [List.length_map])) (fun ⟨a14_3, c14_3⟩ => ?_)
     refine aj (q := true) rfl (iS 1 el43 el43 rfl rfl rfl rfl (an 0 rfl) ((fun r hr => hrl r (List.mem_of_mem_drop hr))) (by rw [hdl]; omega) (O.length - m) (by simp; try omega) (fun v14_4 c14_4 => ?_))
     refine aHK ?_
     refine aA rfl (aNn (dr 1 rfl ?_))
     show awp _ _ _ _ ⟨_, _, [Box _ _ _, emp]⟩
     refine ec [4, 7, 9] [] [b10_19] (by kernel_rfl) ?_
     show aC _ _ _ _ _ _ _ 11 #[false, false, false, false, false, false, false, false, false, false, false] _
     refine yl (X := Option Addr × Nat) (fun w => ⟨[(0, true, x.objs.val), (1, true, x.kp.val), (5, true, .slice w.1 (O.length + 1) w.2), (6, true, .int .i64 i), (7, true, .int .i64 k)], [x.ok], [bA (.slice w.1 (O.length + 1) w.2) 47 7 (((O.map bk.row).take m ++ [q.vs.map D.v]) ++ (O.map bk.row).drop m)]⟩) ?_ ?_
     ·skip
      refine cX 1 rfl (by kernel_rfl) true rfl rfl (fun _ => ar rfl) ?_
      refine cX 2 rfl (by kernel_rfl) true rfl rfl (fun _ => ar rfl) ?_
      refine tp 3 rfl (by kernel_rfl) rfl rfl (vu m el43 rfl (an 5 rfl) rfl rfl hmA hrl) (fun ⟨a15_3, c15_3⟩ => ?_)
      refine eU 5 0 rfl (by kernel_rfl) true rfl rfl (by simp) tk47 (fun _ => rfl) rfl rfl ?_
      refine cX 8 rfl (by kernel_rfl) true rfl rfl (fun _ => ar rfl) ?_
      refine cz 0 [6] (by kernel_rfl) (bO ?_ (bO ?_ cm))
      ·skip
       refine cM 0 rfl rfl (Eff.x ?_)
       refine id (oO el43 rfl (fun v15_0 => ?_))
       refine dy (by (try simp only [nO, nK, nL]); rfl) (by (try simp only [nM, nN]); rfl) (by (try simp only [bX, nQ, nR, dt, place, Nat.reduceBEq, if_true, if_false, reduceIte, Nat.reduceAdd, nW]); rfl) ?_
       refine cz 4 [6] (by kernel_rfl) (bO ?_ (bO ?_ cm))
       ·skip
        refine cM 4 rfl rfl (Eff.framed (q := false) [2] rfl rfl (fJ 0 rfl rfl ji) ?_)
        refine id (iS 0 el43 el43 rfl rfl rfl rfl (an 0 rfl) ((fun r hr => hrl r (List.mem_of_mem_take hr))) (by rw [htl]; omega) (m) (by simp; try omega) (fun v15_4 c15_4 => ?_))
        refine gn ?_
        refine dy (by (try simp only [nO, nK, nL]); rfl) (by (try simp only [nM, nN]); rfl) (by (try simp only [bX, nQ, nR, dt, place, Nat.reduceBEq, if_true, if_false, reduceIte, Nat.reduceAdd, nW]); rfl) ?_
        refine cz 6 [] (by kernel_rfl) (bO ?_ cm)
        refine cM 6 rfl rfl (Eff.x ?_)
        refine id (cG (zs := [.string .empty, .string .empty, .bool false, .int .i64 0, .int .i64 0, .int .i64 0, .bool false]) (l := [(0, .tmp 114)]) el43 (by kernel_rfl) (by decide) (by decide) (by decide) rfl rfl rfl (.more rfl (.v rfl (.v rfl (.v rfl (.v rfl (.v rfl (.v rfl (.v rfl .nil))))))) .nil) rfl rfl (fun v15_6 => ?_))
        refine dy (by (try simp only [nO, nK, nL]); rfl) (by (try simp only [nM, nN]); rfl) (by (try simp only [bX, nQ, nR, dt, place, Nat.reduceBEq, if_true, if_false, reduceIte, Nat.reduceAdd, nW]); rfl) ?_
        refine cz 7 [] (by kernel_rfl) (bO ?_ cm)
        refine cM 7 rfl rfl (Eff.framed (q := false) [2, 3] rfl rfl (fJ 0 rfl rfl ji) ?_)
        refine id (cE 0 el43 rfl rfl rfl rfl (dH 1 el43 rfl (by simp)) (by first | assumption | simp) (by (rw [htl]; simp; omega)) (m + 1) (by rw [htl]; rfl) (fun v15_7 c15_7 => ?_))
        refine gn ?_
        refine dy (by (try simp only [nO, nK, nL]); rfl) (by (try simp only [nM, nN]); rfl) (by (try simp only [bX, nQ, nR, dt, place, Nat.reduceBEq, if_true, if_false, reduceIte, Nat.reduceAdd, nW]); rfl) ?_
        refine cz 9 [] (by kernel_rfl) (bO ?_ cm)
        refine cM 9 rfl rfl (Eff.framed (q := false) [2] rfl rfl (fJ 0 rfl rfl ji) ?_)
        refine id (gS 0 el43 el43 rfl rfl rfl rfl (an 1 rfl) ((fun r hr => hrl r (List.mem_of_mem_drop hr))) (by (rw [List.length_append, htl, hdl]; simp; omega)) (O.length + 1) (by simp; try omega) (fun v15_9 c15_9 => ?_))
        refine gn ?_
        refine dy (by (try simp only [nO, nK, nL]); rfl) (by (try simp only [nM, nN]); rfl) (by (try simp only [bX, nQ, nR, dt, place, Nat.reduceBEq, if_true, if_false, reduceIte, Nat.reduceAdd, nW]); rfl) ?_
        refine cX 10 rfl (by kernel_rfl) true rfl rfl (fun _ => bJ rfl) ?_
        refine gu (by kernel_rfl) ?_
        exact ⟨rfl, [0, 1, 5, 6, 7], [0], [2], (v15_9, c15_9), rfl, rfl⟩
       ·skip
        refine cM 6 rfl rfl (Eff.x ?_)
        refine id (cG (zs := [.string .empty, .string .empty, .bool false, .int .i64 0, .int .i64 0, .int .i64 0, .bool false]) (l := [(0, .tmp 114)]) el43 (by kernel_rfl) (by decide) (by decide) (by decide) rfl rfl rfl (.more rfl (.v rfl (.v rfl (.v rfl (.v rfl (.v rfl (.v rfl (.v rfl .nil))))))) .nil) rfl rfl (fun v15_6 => ?_))
        refine dy (by (try simp only [nO, nK, nL]); rfl) (by (try simp only [nM, nN]); rfl) (by (try simp only [bX, nQ, nR, dt, place, Nat.reduceBEq, if_true, if_false, reduceIte, Nat.reduceAdd, nW]); rfl) ?_
        refine cz 4 [] (by kernel_rfl) (bO ?_ cm)
        refine cM 4 rfl rfl (Eff.framed (q := false) [2] rfl rfl (fJ 0 rfl rfl ji) ?_)
        refine id (iS 0 el43 el43 rfl rfl rfl rfl (an 0 rfl) ((fun r hr => hrl r (List.mem_of_mem_take hr))) (by rw [htl]; omega) (m) (by simp; try omega) (fun v15_4 c15_4 => ?_))
        refine gn ?_
        refine dy (by (try simp only [nO, nK, nL]); rfl) (by (try simp only [nM, nN]); rfl) (by (try simp only [bX, nQ, nR, dt, place, Nat.reduceBEq, if_true, if_false, reduceIte, Nat.reduceAdd, nW]); rfl) ?_
        refine cz 7 [] (by kernel_rfl) (bO ?_ cm)
        refine cM 7 rfl rfl (Eff.framed (q := false) [2, 3] rfl rfl (fJ 0 rfl rfl ji) ?_)
        refine id (cE 0 el43 rfl rfl rfl rfl (dH 1 el43 rfl (by simp)) (by first | assumption | simp) (by (rw [htl]; simp; omega)) (m + 1) (by rw [htl]; rfl) (fun v15_7 c15_7 => ?_))
        refine gn ?_
        refine dy (by (try simp only [nO, nK, nL]); rfl) (by (try simp only [nM, nN]); rfl) (by (try simp only [bX, nQ, nR, dt, place, Nat.reduceBEq, if_true, if_false, reduceIte, Nat.reduceAdd, nW]); rfl) ?_
        refine cz 9 [] (by kernel_rfl) (bO ?_ cm)
        refine cM 9 rfl rfl (Eff.framed (q := false) [2] rfl rfl (fJ 0 rfl rfl ji) ?_)
        refine id (gS 0 el43 el43 rfl rfl rfl rfl (an 1 rfl) ((fun r hr => hrl r (List.mem_of_mem_drop hr))) (by (rw [List.length_append, htl, hdl]; simp; omega)) (O.length + 1) (by simp; try omega) (fun v15_9 c15_9 => ?_))
        refine gn ?_
        refine dy (by (try simp only [nO, nK, nL]); rfl) (by (try simp only [nM, nN]); rfl) (by (try simp only [bX, nQ, nR, dt, place, Nat.reduceBEq, if_true, if_false, reduceIte, Nat.reduceAdd, nW]); rfl) ?_
        refine cX 10 rfl (by kernel_rfl) true rfl rfl (fun _ => bJ rfl) ?_
        refine gu (by kernel_rfl) ?_
        exact ⟨rfl, [0, 1, 5, 6, 7], [0], [2], (v15_9, c15_9), rfl, rfl⟩
      ·skip
       refine cM 6 rfl rfl (Eff.x ?_)
       refine id (cG (zs := [.string .empty, .string .empty, .bool false, .int .i64 0, .int .i64 0, .int .i64 0, .bool false]) (l := [(0, .tmp 114)]) el43 (by kernel_rfl) (by decide) (by decide) (by decide) rfl rfl rfl (.more rfl (.v rfl (.v rfl (.v rfl (.v rfl (.v rfl (.v rfl (.v rfl .nil))))))) .nil) rfl rfl (fun v15_6 => ?_))
       refine dy (by (try simp only [nO, nK, nL]); rfl) (by (try simp only [nM, nN]); rfl) (by (try simp only [bX, nQ, nR, dt, place, Nat.reduceBEq, if_true, if_false, reduceIte, Nat.reduceAdd, nW]); rfl) ?_
       refine cz 0 [] (by kernel_rfl) (bO ?_ cm)
       refine cM 0 rfl rfl (Eff.x ?_)
       refine id (oO el43 rfl (fun v15_0 => ?_))
       refine dy (by (try simp only [nO, nK, nL]); rfl) (by (try simp only [nM, nN]); rfl) (by (try simp only [bX, nQ, nR, dt, place, Nat.reduceBEq, if_true, if_false, reduceIte, Nat.reduceAdd, nW]); rfl) ?_
       refine cz 4 [] (by kernel_rfl) (bO ?_ cm)
       refine cM 4 rfl rfl (Eff.framed (q := false) [3] rfl rfl (fJ 0 rfl rfl ji) ?_)
       refine id (iS 0 el43 el43 rfl rfl rfl rfl (an 0 rfl) ((fun r hr => hrl r (List.mem_of_mem_take hr))) (by rw [htl]; omega) (m) (by simp; try omega) (fun v15_4 c15_4 => ?_))
       refine gn ?_
       refine dy (by (try simp only [nO, nK, nL]); rfl) (by (try simp only [nM, nN]); rfl) (by (try simp only [bX, nQ, nR, dt, place, Nat.reduceBEq, if_true, if_false, reduceIte, Nat.reduceAdd, nW]); rfl) ?_
       refine cz 7 [] (by kernel_rfl) (bO ?_ cm)
       refine cM 7 rfl rfl (Eff.framed (q := false) [3, 2] rfl rfl (fJ 0 rfl rfl ji) ?_)
       refine id (cE 0 el43 rfl rfl rfl rfl (dH 1 el43 rfl (by simp)) (by first | assumption | simp) (by (rw [htl]; simp; omega)) (m + 1) (by rw [htl]; rfl) (fun v15_7 c15_7 => ?_))
       refine gn ?_
       refine dy (by (try simp only [nO, nK, nL]); rfl) (by (try simp only [nM, nN]); rfl) (by (try simp only [bX, nQ, nR, dt, place, Nat.reduceBEq, if_true, if_false, reduceIte, Nat.reduceAdd, nW]); rfl) ?_
       refine cz 9 [] (by kernel_rfl) (bO ?_ cm)
       refine cM 9 rfl rfl (Eff.framed (q := false) [3] rfl rfl (fJ 0 rfl rfl ji) ?_)
       refine id (gS 0 el43 el43 rfl rfl rfl rfl (an 1 rfl) ((fun r hr => hrl r (List.mem_of_mem_drop hr))) (by (rw [List.length_append, htl, hdl]; simp; omega)) (O.length + 1) (by simp; try omega) (fun v15_9 c15_9 => ?_))
       refine gn ?_
       refine dy (by (try simp only [nO, nK, nL]); rfl) (by (try simp only [nM, nN]); rfl) (by (try simp only [bX, nQ, nR, dt, place, Nat.reduceBEq, if_true, if_false, reduceIte, Nat.reduceAdd, nW]); rfl) ?_
       refine cX 10 rfl (by kernel_rfl) true rfl rfl (fun _ => bJ rfl) ?_
       refine gu (by kernel_rfl) ?_
       exact ⟨rfl, [0, 1, 5, 6, 7], [0], [3], (v15_9, c15_9), rfl, rfl⟩
     ·skip
      rintro ⟨ao, co⟩
      refine bu (av (ae (aM rfl ?_)))
      refine aU rfl (bf rfl rfl (by omega)) ?_
      refine aA rfl (aNn ?_)
      refine ⟨[0, 1, 5, 6, 7], [0], [0], rfl, ?_⟩
      exact ⟨(k + 1, .slice ao (O.length + 1) co), ⟨by dsimp only; omega, by dsimp only; rw [hyes, hins, List.map_append, List.map_append, List.map_take, List.map_drop]; rfl⟩, by dsimp only; omega⟩
  ·skip
   refine aR (aS (aS (aY (bu (av (ae (aM rfl ?_)))))))
   refine aU rfl (bf rfl rfl (by omega)) ?_
   refine aA rfl (aNn ?_)
   refine ⟨[0, 1, 5, 6], [0], [0], rfl, ?_⟩
   dsimp only
   rw [List.take_of_length_le (by simp at h2; omega)]
   exact ⟨(i + 1, v2), ⟨by dsimp only; omega, by dsimp only; rw [cq, hoo]; rfl⟩, by dsimp only; omega⟩
 ·skip
  have hil : i = x.objs.l.length := by simp at h1; omega
  subst hil
  dsimp only
  refine aR (aS (aS (aY (av (az (dr 0 rfl ?_))))))
  refine fo (.of (an 0 rfl)) (fun ao co hvo => ?_)
  rw [List.length_map] at hvo
  subst hvo
  refine ae (aM rfl (aA rfl (aNn (aq ?_))))
  refine aV [1] [] rfl Tryz.results19 rfl ?_ (.inr rfl)
  exact ⟨rfl, ⟨ao, co, _⟩, rfl, rfl, rfl⟩
end Go.Proofs.YtgmiihmahaahiaaGreatDoor

namespace Go.Proofs.YtgmiihmahaahiaaGreatDoor
open Go.RowKit Go.Lp Go.Sy
open Go.Proofs.Tryz
attribute [local irreducible] aL aB awp aC fwp
abbrev PK (x : G13) (K : Sl (Sl Bool)) : List Per := [bP (ShF bR) K.l, ShF slR K, x.ok]
theorem xw (x : G13) (K : Sl (Sl Bool)) : ∀ p ∈ [(x.ln K).ok], Ent (PK x K) p := fun p hp => by
 rw [List.mem_singleton.1 hp]
 intro w S hps
 have h := hps _ (an 2 rfl)
 exact ⟨h.2.2.2.1, h.2.2.2.2.1, hps _ (an 1 rfl), hps _ (an 0 rfl), h.2.2.2.2.2.1, h.2.2.2.2.2.2.1, h.2.2.2.2.2.2.2.1, h.2.2.2.2.2.2.2.2⟩
theorem ql (x : G13) (K : Sl (Sl Bool)) (hok : ew x.os.l K.l) (hz : oS (x.ln K)) :
   Con Tryz.prog 14 [x.os.val, K.val, .bool x.lib, x.ifs.val, x.vs.val] (PK x K) [] fun r ps hp => hp = [] ∧ ∃ S : Sl (Sl aO), ps = [ChG S] ∧
     r = .tuple #[S.val, .int .i64 (lB (cI K.l (aW x.os.l) (di x.vs.l) (cA x.ifs.l) x.lib)), .int .i64 (kz (cI K.l (aW x.os.l) (di x.vs.l) (cA x.ifs.l) x.lib)).obj, .int .i64 (kz (cI K.l (aW x.os.l) (di x.vs.l) (cA x.ifs.l) x.lib)).sym] ∧
     S.l.map (·.l) = if cI K.l (aW x.os.l) (di x.vs.l) (cA x.ifs.l) x.lib = none then iE x.os.l K.l (di x.vs.l) (cA x.ifs.l) x.lib else [] :=
 (uu (x.ln K) hok hz).pre (xw x K)
theorem su (x : G13) (K : Sl (Sl Bool)) (hok : ew x.os.l K.l) : Con Tryz.prog 19 [x.os.val, K.val] (PK x K) [] fun r ps hp => hp = [] ∧ ∃ S : Sl bk, r = S.val ∧ S.l = qS K.l (aW x.os.l) ∧ ps = [ShF bk.row S] :=
 (wJ (x.ln K) hok).pre (xw x K)
theorem sj (x : G13) (K : Sl (Sl Bool)) (hok : ew x.os.l K.l) (n : ByteArray) : Con Tryz.prog 17 [x.os.val, .string n] (PK x K) [] fun r _ _ => r = .int .i64 (fB (aW x.os.l) n) :=
 (ja (x.ln K) hok n).pre (xw x K)
theorem qy (A B : Sl (Sl aO)) (h : A.l.map (·.l) = B.l.map (·.l)) : Con Tryz.prog 15 [A.val, B.val] [ChG B, bP (ShF aO.row) A.l, ShF slR A] [] fun r _ _ => r = .bool true :=
 (tT A B).post fun _ _ _ hr => hr h
theorem rQ (xs : Array Value) (l : List Nat) : et xs xs l = true := by
 unfold et
 rw [List.all_eq_true]
 intro o _
 cases eL xs o <;> simp
theorem eqO (x y : bk) : sI x.vs.toArray y.vs.toArray [(0, 2), (1, 2), (2, 1), (3, 0), (4, 0), (5, 0), (6, 1)] = decide (x = y) := by
 cases x; cases y
 rw [Bool.eq_iff_iff, decide_eq_true_eq]
 simp [sI, qX]
section
variable {n : Fr} {s : Sta} {d : Option Tmp} {ty : TypeId} {pos : String} {af : Array Edge} {gd : Option (Nat × Bool)} {X Y : Operand} {t' : TypeId}
theorem zC (x y : bk) (hx : ev s.env X = some (true, x.val)) (hy : ev s.env Y = some (true, y.val)) : Quiet Tryz.prog n ⟨d, .binOp .neq 46 X Y t', ty, pos, af, gd⟩ s (.bool (!decide (x = y))) := by
 have h := si (P := Tryz.prog) (n := n) (d := d) (ty := ty) (pos := pos) (af := af) (gd := gd) (t' := t') (t := 46) (xs := x.vs.toArray) (ys := y.vs.toArray) (by kernel_rfl) (by kernel_rfl) (by kernel_rfl) (fun w => gG 9998 _ _ _ [(0, 2), (1, 2), (2, 1), (3, 0), (4, 0), (5, 0), (6, 1)] w (by kernel_rfl) (by kernel_rfl) rfl rfl) hx hy
 rw [eqO] at h; exact h
end
structure yL (x : G13) : Prop where
 vs : (x.vs.l.flatMap fun d => d.parents.l).length ≤ 800000000
 ifs : ∀ f ∈ x.ifs.l, (f.versions.l.flatMap fun d => d.parents.l).length ≤ 800000000
set_option maxHeartbeats 1000000 in
theorem uQ (x : G13) (nm : ByteArray) (hZ : yL x) : Con Tryz.prog 3 [x.os.val, .bool x.lib, x.ifs.val, x.vs.val, .string nm] [x.ok] [] fun r _ _ => r = .bool true := by
 refine Con.enter Tryz.func3 rfl (by simp [Tryz.ntmps3]) ?_
 show awp _ _ _ _ ⟨[(0, true, _), (1, true, _), (2, true, _), (3, true, _), (4, true, _)], _, _⟩
 refine aSR (aA rfl (aNn (aSR ?_)))
 refine aU rfl (bw (by kernel_rfl) rfl (fun w S fp hst => pR.quiet0 hst)) ?_
 refine aA rfl (aNn (aSR (aM rfl (aM rfl (aM rfl ?_)))))
 refine aQ (caps := []) [0] (false) (by kernel_rfl) true rfl rfl (fun _ => rfl) (fun hc => rfl) (fun hc => by rw [List.append_nil]; exact uq x) (fun cf hcf => ?_)
 refine aA rfl (aNs (aSR (aM rfl (aU rfl (bT rfl) (aNn ?_)))))
 refine ah _ rfl (fun h1 => ?_) (fun h1 => ?_)
 ·skip
  refine aSR (aM rfl (aA rfl (aNn (aq (aK ?_)))))
  refine aV [] [] rfl Tryz.results3 rfl ?_ (.inr rfl)
  rfl
 ·skip
  have hF := hcf rfl (by simpa using h1)
  refine au (av (aSR (aM rfl ?_)))
  refine aj (q := true) rfl (bF [0] [] (by kernel_rfl) rfl rfl rfl rfl (sG x hF) ?_)
  rintro _ _ _ ⟨rfl, K, dv, rfl, hok, rfl⟩
  refine aST ?_
  refine aM rfl (aU rfl (bc rfl rfl) (aU rfl (bc rfl rfl) (aA rfl (aA rfl (aNn (aSR (aM rfl (aM rfl (aM rfl (aM rfl (aM rfl ?_)))))))))))
  refine aj (q := true) rfl (bF [2, 1, 0] [] (by kernel_rfl) rfl rfl rfl rfl (sr x K hok) ?_)
  rintro _ _ _ ⟨rfl, Cs, rfl, rfl, hS⟩
  refine aST ?_
  refine aM rfl (aU rfl (bc rfl rfl) (aU rfl (bc rfl rfl) (aU rfl (bc rfl rfl) ?_)))
  refine aj (q := true) rfl (bp (zs := [.int .i64 0, .int .i64 0]) (by kernel_rfl) rfl (fun b6_10 => ?_))
  refine aHN ?_
  refine aA rfl (aA rfl ?_)
  refine aj rfl (aT 0 tk34 rfl rfl rfl rfl ?_)
  refine aHK ?_
  refine aNn (aSR (aM rfl (aM rfl (aM rfl (aM rfl (aM rfl ?_))))))
  refine aj (q := true) rfl (bF [2, 1, 0] [] (by kernel_rfl) rfl rfl rfl rfl (ql x K hok ⟨hZ.vs, hZ.ifs⟩) ?_)
  rintro _ _ _ ⟨rfl, Ds, rfl, rfl, hD⟩
  refine aST ?_
  refine aM rfl (aU rfl (bc rfl rfl) (aU rfl (bc rfl rfl) (aU rfl (bc rfl rfl) (aU rfl (bc rfl rfl) (aA rfl (aA rfl (aA rfl (aA rfl (aNs ?_)))))))))
  have hsame : Cs.l.map (·.l) = Ds.l.map (·.l) := by rw [hS, hD]
  refine ae (aM rfl (aM rfl ?_))
  refine aU rfl (bw (by kernel_rfl) rfl (fun w S fp hst => lA (qy Cs Ds hsame) (an 0 rfl) (an 1 rfl) (an 2 rfl) hst)) ?_
  refine aA rfl (aNs (aSR (aM rfl (aM rfl (aU rfl (cN rfl rfl) (aM rfl (aG rfl rfl (fun hc => ar rfl) (aG rfl rfl (fun hc => bT (aa rfl hc)) (aU rfl (ct rfl rfl (fun h => gf rfl h)) (aM rfl (aG rfl rfl (fun hc => ab 0 tk34 rfl rfl rfl) (aG rfl rfl (fun hc => ar rfl) (aG rfl rfl (fun hc => ar rfl) ?_)))))))))))))
  refine aG rfl rfl (fun hc => cU (l := [(0, .tmp 72), (1, .tmp 73)]) (zs := [.int .i64 0, .int .i64 0]) (pl := [(0, 1), (1, 1)]) (by kernel_rfl) (by kernel_rfl) (by kernel_rfl) rfl (aI (aa rfl hc) (aI (aa rfl hc) rfl)) rfl) ?_
  refine aG rfl rfl (fun hc => si (by kernel_rfl) (by kernel_rfl) (by kernel_rfl) (fun w => jb 9998 _ _ _ w (by kernel_rfl) rfl rfl) (aa rfl hc) (aa rfl hc)) ?_
  refine aU rfl (ct rfl rfl (fun h => gf rfl h)) (aM rfl (aG rfl rfl (fun hc => ar rfl) (aG rfl rfl (fun hc => ar rfl) ?_)))
  refine aG rfl rfl (fun hc => bw (by kernel_rfl) (aI (aa rfl hc) (aI (aa rfl hc) rfl)) (fun w S fp hst => (tL x nm).quiet1 (an 5 rfl) hst)) ?_
  refine aG rfl rfl (fun hc => ar rfl) (aG rfl rfl (fun hc => ar rfl) ?_)
  refine aG rfl rfl (fun hc => bw (by kernel_rfl) (aI (aa rfl hc) (aI (aa rfl hc) rfl)) (fun w S fp hst => lA (sj x K hok nm) (an 3 rfl) (an 4 rfl) (an 5 rfl) hst)) ?_
  refine aG rfl rfl (fun hc => cN (aa rfl hc) (aa rfl hc)) (aU rfl (ct rfl rfl (fun h => gf rfl h)) (aNn ?_))
  refine ah _ rfl (fun h2 => ?_) (fun h2 => ?_)
  ·skip
   exact absurd h2 (by simp [rQ])
  ·skip
   refine au (av (az (aSR (aM rfl (aU rfl (cN rfl rfl) (aNn ?_))))))
   refine ah _ rfl (fun h3 => ?_) (fun h3 => ?_)
   ·skip
    refine aSR (aM rfl (aA rfl (aNn (aq (aK ?_)))))
    refine aV [] [] rfl Tryz.results3 rfl ?_ (.inr rfl)
    rfl
   ·skip
    have hB := yu hS (xT (by simpa using h3))
    refine au (av (aSR (aM rfl (aM rfl (aM rfl ?_)))))
    refine aj (q := true) rfl (bF [4, 3, 0] [] (by kernel_rfl) rfl rfl rfl rfl (mB x K hok Cs hB) ?_)
    rintro v _ _ ⟨rfl, rfl⟩
    refine aST ?_
    refine aA rfl (aNs (dr 1 rfl ?_))
    refine fo (.of (an 0 rfl)) (fun ad cp hv => ?_)
    subst hv
    rw [List.length_map]
    refine bd (.of (an 0 rfl)) (fun hlx => ?_)
    refine ae (aM rfl (aM rfl ?_))
    refine aj (q := true) rfl (bF [2, 1, 0] [] (by kernel_rfl) rfl rfl rfl rfl (su x K hok) ?_)
    rintro _ _ _ ⟨rfl, ⟨Ea, Ec, El⟩, rfl, rfl, rfl⟩
    refine aST ?_
    refine aA rfl (aNs (az ?_))
    generalize qS K.l (aW x.os.l) = xs at hlx
    refine ae (aM rfl (aU rfl (aZ Tryz.underlying41 rfl) (aM rfl (aU rfl (aZ Tryz.underlying43 rfl) (aU rfl (cN rfl rfl) (aNn ?_))))))
    refine ah _ rfl (fun h4 => ?_) (fun h4 => ?_)
    ·skip
     exact absurd h4 (by simp)
    ·skip
     refine au (av (az (aSR (aA rfl (aNn ?_)))))
     refine aw (aP [11, 23, 24, 25] [7, 6] [] (fun (i : Nat) st => i ≤ xs.length ∧ st = ⟨[(11, true, .bool true), (23, true, .slice ad xs.length cp), (24, true, .slice Ea xs.length Ec), (25, true, .int .i64 i)], [ShF bk.row ⟨Ea, Ec, xs⟩, Sh (.slice ad xs.length cp) (.sl (xs.map bk.row))], []⟩) (fun i => xs.length - i) rfl (⟨0, Nat.zero_le _, rfl⟩) ?_)
     rintro i st ⟨hi, rfl⟩
     refine az (aSR (aM rfl (aM rfl (aU rfl (aZ Tryz.underlying41 rfl) (aU rfl (bt rfl rfl) (aNn ?_))))))
     refine ah _ rfl (fun h5 => ?_) (fun h5 => ?_)
     ·skip
      have hi' : i < xs.length := by simp at h5; omega
      obtain ⟨y, hy⟩ : ∃ y, xs[i]? = some y := ⟨_, List.getElem?_eq_getElem hi'⟩
      refine au (av (az (aw (az ?_))))
      refine aX [] (by kernel_rfl) ?_
      show aB _ _ _ _ _ 41 #[false, false, false, false, false, false, false, false, false, false, false, false, false, false, false, false, false, false, false, false, false, false, false, false, false, false, false, false, false, false, false, false, false, false, false, false, false, false, false, false, false] _
      refine bV 0 rfl rfl (ar rfl) ?_
      refine bV 1 rfl rfl (ar rfl) ?_
      refine cD 2 rfl (by kernel_rfl) true rfl rfl (fun _ => ai Tryz.underlying41 tk46 rfl ((.of (an 1 rfl))) rfl (aJ hy) rfl rfl) (fun h => absurd h (by decide)) (fun ⟨b20_2, o20_2⟩ => ?_)
      refine bV 3 rfl rfl (aF (o := 0) tk46 rfl (an 0 rfl) rfl rfl) ?_
      refine bV 4 rfl rfl (ar rfl) ?_
      refine bV 5 rfl rfl (ar rfl) ?_
      refine cD 6 rfl (by kernel_rfl) true rfl rfl (fun _ => ai Tryz.underlying43 tk47 rfl ((.of (an 1 rfl))) rfl (aJ hy) rfl rfl) (fun h => absurd h (by decide)) (fun ⟨b20_6, o20_6⟩ => ?_)
      refine bV 7 rfl rfl (qFA (off := 0) rfl) ?_
      refine bV 8 rfl rfl (aF (o := 0) tk9 rfl (an 0 rfl) rfl rfl) ?_
      refine bV 9 rfl rfl (ar rfl) ?_
      refine bV 10 rfl rfl (ar rfl) ?_
      refine cD 11 rfl (by kernel_rfl) true rfl rfl (fun _ => ai Tryz.underlying43 tk47 rfl ((.of (an 2 rfl))) rfl (aJ hy) rfl rfl) (fun h => absurd h (by decide)) (fun ⟨b20_11, o20_11⟩ => ?_)
      refine bV 12 rfl rfl (qFA (off := 1) rfl) ?_
      refine bV 13 rfl rfl (aF (o := 1) tk9 rfl (an 0 rfl) rfl rfl) ?_
      refine bV 14 rfl rfl (ar rfl) ?_
      refine bV 15 rfl rfl (ar rfl) ?_
      refine cD 16 rfl (by kernel_rfl) true rfl rfl (fun _ => ai Tryz.underlying43 tk47 rfl ((.of (an 3 rfl))) rfl (aJ hy) rfl rfl) (fun h => absurd h (by decide)) (fun ⟨b20_16, o20_16⟩ => ?_)
      refine bV 17 rfl rfl (qFA (off := 2) rfl) ?_
      refine bV 18 rfl rfl (aF (o := 2) tk4 rfl (an 0 rfl) rfl rfl) ?_
      refine bV 19 rfl rfl (ar rfl) ?_
      refine bV 20 rfl rfl (ar rfl) ?_
      refine cD 21 rfl (by kernel_rfl) true rfl rfl (fun _ => ai Tryz.underlying43 tk47 rfl ((.of (an 4 rfl))) rfl (aJ hy) rfl rfl) (fun h => absurd h (by decide)) (fun ⟨b20_21, o20_21⟩ => ?_)
      refine bV 22 rfl rfl (qFA (off := 3) rfl) ?_
      refine bV 23 rfl rfl (aF (o := 3) tk3 rfl (an 0 rfl) rfl rfl) ?_
      refine bV 24 rfl rfl (ar rfl) ?_
      refine bV 25 rfl rfl (ar rfl) ?_
      refine cD 26 rfl (by kernel_rfl) true rfl rfl (fun _ => ai Tryz.underlying43 tk47 rfl ((.of (an 5 rfl))) rfl (aJ hy) rfl rfl) (fun h => absurd h (by decide)) (fun ⟨b20_26, o20_26⟩ => ?_)
      refine bV 27 rfl rfl (qFA (off := 4) rfl) ?_
      refine bV 28 rfl rfl (aF (o := 4) tk3 rfl (an 0 rfl) rfl rfl) ?_
      refine bV 29 rfl rfl (ar rfl) ?_
      refine bV 30 rfl rfl (ar rfl) ?_
      refine cD 31 rfl (by kernel_rfl) true rfl rfl (fun _ => ai Tryz.underlying43 tk47 rfl ((.of (an 6 rfl))) rfl (aJ hy) rfl rfl) (fun h => absurd h (by decide)) (fun ⟨b20_31, o20_31⟩ => ?_)
      refine bV 32 rfl rfl (qFA (off := 5) rfl) ?_
      refine bV 33 rfl rfl (aF (o := 5) tk3 rfl (an 0 rfl) rfl rfl) ?_
      refine bV 34 rfl rfl (ar rfl) ?_
      refine bV 35 rfl rfl (ar rfl) ?_
      refine cD 36 rfl (by kernel_rfl) true rfl rfl (fun _ => ai Tryz.underlying43 tk47 rfl ((.of (an 7 rfl))) rfl (aJ hy) rfl rfl) (fun h => absurd h (by decide)) (fun ⟨b20_36, o20_36⟩ => ?_)
      refine bV 37 rfl rfl (qFA (off := 6) rfl) ?_
      refine bV 38 rfl rfl (aF (o := 6) tk4 rfl (an 0 rfl) rfl rfl) ?_
      refine bV 39 rfl rfl (cU (l := [(0, .tmp 115), (1, .tmp 120), (2, .tmp 125), (3, .tmp 130), (4, .tmp 135), (5, .tmp 140), (6, .tmp 145)]) (zs := [.string .empty, .string .empty, .bool false, .int .i64 0, .int .i64 0, .int .i64 0, .bool false]) (pl := [(0, 1), (1, 1), (2, 1), (3, 1), (4, 1), (5, 1), (6, 1)]) (by kernel_rfl) (by kernel_rfl) (by kernel_rfl) rfl rfl rfl) ?_
      refine bV 40 rfl rfl (zC y y rfl rfl) ?_
      refine bD (by kernel_rfl) ?_
      refine av ?_
      refine ah _ rfl (fun h6 => ?_) (fun h6 => ?_)
      ·skip
       exact absurd h6 (by simp)
      ·skip
       refine au (bu (av (ae (aM rfl ?_))))
       refine aU rfl (bf rfl rfl (by omega)) ?_
       refine aA rfl (aNn ?_)
       refine ⟨[11, 23, 24, 25], [1, 0], [], rfl, ?_⟩
       exact ⟨i + 1, ⟨by omega, rfl⟩, by omega⟩
     ·skip
      refine aR (aS (aS (aY (av (aSR (aM rfl (aA rfl (aNn (aq ?_)))))))))
      refine aV [] [] rfl Tryz.results3 rfl ?_ (.inr rfl)
      rfl
end Go.Proofs.YtgmiihmahaahiaaGreatDoor

