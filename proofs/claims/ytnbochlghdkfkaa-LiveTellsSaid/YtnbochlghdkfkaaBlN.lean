/- Live and Way tell what the reference tells, in plain terms. No condition. -/
import Derived.Test.YtnbochlghdkfkaaBlJ
import Derived.Test.YtnbochlghdkfkaaBlG
import Derived.Test.YtnbochlghdkfkaaBlM
import Derived.Test.YtnbochlghdkfkaaBlK
set_option linter.unusedVariables false
set_option linter.unusedSimpArgs false
set_option maxRecDepth 20000
namespace Go.Proofs.Ytnbochlghdkfkaa
open Go.RowKit Go.Lp Go.Sy
open Go.Proofs.Try
attribute [local irreducible] aL aB awp aC fwp
/-- lists of ints, shared -/
abbrev RowsI (l : List (Sl Int)) : Per := AllF (ShF fun z : Int => [.v (encI z)]) l
abbrev PairT (s : Sl (Sl Int)) : Per := AndP (ShF (fun t : Sl Int => [.v t.val]) s) (RowsI s.l)
def plRow (i n : Nat) : List (List Int) := (List.range n).map fun k : Nat => [(i : Int), (k : Int)]
def placesN (os : List GObject) (n : Nat) : List (List Int) := (List.range n).flatMap fun i => plRow i (elt os (i : Int)).secs.l.length
theorem plRow_succ (i n : Nat) : plRow i (n + 1) = plRow i n ++ [[(i : Int), (n : Int)]] := by simp [plRow, List.range_succ]
theorem placesN_succ (os : List GObject) (n : Nat) : placesN os (n + 1) = placesN os n ++ plRow n (elt os (n : Int)).secs.l.length := by simp [placesN, List.range_succ, List.flatMap_append]
theorem plRow_len (i n : Nat) : (plRow i n).length = n := by simp [plRow]
theorem placesN_len (os : List GObject) : ∀ n, (placesN os n).length = cntF os n
  | 0 => rfl
  | n + 1 => by rw [placesN_succ, List.length_append, plRow_len, placesN_len os n]; rfl
theorem con_places (x : GLink) (hf : FewL x.objs.l) : Con Try.prog 26 [x.objs.val] [x.ok] [] fun r ps hp => hp = [] ∧ ∃ s : Sl (Sl Int), r = s.val ∧ s.l.map (·.l) = placesN x.objs.l x.objs.l.length ∧ ps = [PairT s] := by
  have hn4 := hf.n
  refine Con.enter Try.func26 rfl (by simp [Try.ntmps26]) ?_
  show awp _ _ _ _ ⟨[(0, true, _)], _, _⟩
  refine awp_lenE (GLink.f_objs (.of (psAt 0 rfl))) (fun hlen => ?_)
  refine awp_seq (awp_region (aL_s true rfl rfl (fun _ => q_assign rfl) (aL_nil (thn_n (awp_seq (awp_nil 37 1 ?_))))))
  show awp _ _ _ _ ⟨_, _, [_]⟩
  refine awp_fact (RowsI []) (fun w S hps y hy => by cases hy) ?_
  refine awp_region (aL_s true rfl rfl (fun _ => q_assign rfl) (aL_nil (thn_n (awp_seq (awp_seq (awp_region (aL_s true rfl rfl (fun _ => q_assign rfl) ?_)))))))
  refine aL_nil (thn_n (awp_block (awp_loopK [0, 3, 4] [1, 0] [0] (fun (p : Nat × List (Sl Int) × Value) st => (p.1 ≤ x.objs.l.length ∧ p.2.1.map (·.l) = placesN x.objs.l p.1) ∧ st = ⟨[(0, true, x.objs.val), (3, true, p.2.2), (4, true, .int .i64 p.1)], [RowsI p.2.1, x.ok], [OwnS p.2.2 37 1 (p.2.1.map fun t : Sl Int => [D.v t.val])]⟩) (fun p => x.objs.l.length - p.1) rfl (⟨(0, [], .slice none 0 0), ⟨Nat.zero_le _, rfl⟩, rfl⟩) ?_)))
  rintro ⟨i, outs, vo⟩ st ⟨⟨hi, hout⟩, rfl⟩
  dsimp only at hi hout
  refine awp_seq (awp_seq (awp_region (aL_s true rfl rfl (fun _ => q_move rfl) (aL_s true rfl rfl (fun _ => q_move rfl) (aL_s true rfl rfl (fun _ => q_lenS Try.underlying26 rfl) (aL_s true rfl rfl (fun _ => q_lss rfl rfl) (aL_nil ?_)))))))
  refine thn_n ?_
  refine awp_cond _ rfl (fun h1 => ?_) (fun h1 => ?_)
  ·skip
   have hi' : i < x.objs.l.length := by simp at h1; omega
   have ho := elt_nat hi'
   have hfo := hf.of _ (List.mem_of_getElem? ho)
   have hcn := cnt_le (fun o ho => (hf.of o ho).1) i (by omega)
   refine awp_skip (thn_n (awp_seq (awp_block (awp_seq (awp_region (aL_s true rfl rfl (fun _ => q_assign rfl) (aL_nil ?_)))))))
   refine thn_n (awp_block ?_)
   refine awp_loopK [0, 3, 4, 5] [1, 0] [0] (fun (p : Nat × List (Sl Int) × Value) st => (p.1 ≤ (elt x.objs.l (i : Int)).secs.l.length ∧ p.2.1.map (·.l) = placesN x.objs.l i ++ plRow i p.1) ∧ st = ⟨[(0, true, x.objs.val), (3, true, p.2.2), (4, true, .int .i64 i), (5, true, .int .i64 p.1)], [RowsI p.2.1, x.ok], [OwnS p.2.2 37 1 (p.2.1.map fun t : Sl Int => [D.v t.val])]⟩) (fun p => (elt x.objs.l (i : Int)).secs.l.length - p.1) rfl (⟨(0, outs, vo), ⟨Nat.zero_le _, by dsimp only; rw [hout]; simp [plRow]⟩, rfl⟩) ?_
   rintro ⟨k, outs2, vo2⟩ st ⟨⟨hk, hout2⟩, rfl⟩
   dsimp only at hk hout2
   have hol : outs2.length ≤ 100 := by
     have := congrArg List.length hout2
     rw [List.length_map, List.length_append, placesN_len, plRow_len] at this; omega
   refine awp_seq (awp_seq (awp_region (aL_s true rfl rfl (fun _ => q_move rfl) (aL_s true rfl rfl (fun _ => q_move rfl) (aL_s true rfl rfl (fun _ => q_move rfl) ?_)))))
   refine aL_E true rfl rfl (fun _ => q_indexAddrG Try.underlying26 tk53 rfl ((GLink.f_objs (.of (psAt 1 rfl)))) rfl (rows_get ho) rfl rfl) (fun h => absurd h (by decide)) (fun ⟨b6_3, o6_3⟩ => ?_)
   refine aL_s true rfl rfl (fun _ => q_fieldAddr (off := 1) (by kernel_rfl) rfl) ?_
   refine aL_s true rfl rfl (fun _ => q_loadD (o := 1) tk42 rfl (psAt 0 rfl) rfl rfl) (aL_s true rfl rfl (fun _ => q_lenS Try.underlying42 rfl) (aL_s true rfl rfl (fun _ => q_lss rfl rfl) (aL_nil (thn_n ?_))))
   refine awp_cond _ rfl (fun h2 => ?_) (fun h2 => ?_)
   ·skip
    have hk' : k < (elt x.objs.l (i : Int)).secs.l.length := by simp at h2; omega
    refine awp_skip (thn_n (awp_seq (awp_block (awp_region (aL_s true rfl rfl (fun _ => q_move rfl) (aL_s true rfl rfl (fun _ => q_move rfl) (aL_s true rfl rfl (fun _ => q_move rfl) ?_)))))))
    refine aL_eff (q := true) rfl (w_lit (zs := [.int .i64 0]) (l := [(0, .tmp 23), (1, .tmp 24)]) el37 (by kernel_rfl) (by decide) (by decide) (by decide) rfl rfl rfl (.more rfl (.v rfl .nil) (.more rfl (.v rfl .nil) .nil)) rfl rfl (fun v8_3 => ?_))
    refine aL_hp (by (try simp only [nM, nN]); rfl) ?_
    refine aL_eff (q := true) rfl (w_lit (zs := [.slice none 0 0]) (l := [(0, .tmp 25)]) el33 (by kernel_rfl) (by decide) (by decide) (by decide) rfl rfl rfl (.more rfl (.v rfl .nil) .nil) rfl rfl (fun v8_4 => ?_))
    refine aL_hp (by (try simp only [nM, nN]); rfl) ?_
    refine aL_eff rfl (w_append 0 el33 rfl rfl rfl rfl (w_srcO 2 el33 rfl (by simp)) (by first | assumption | simp) (by simp; omega) _ rfl (fun v8_5 c8_5 => ?_))
    refine aL_hp (by simp only [nK, nL]; rfl) ?_
    refine aL_s true rfl rfl (fun _ => q_assign rfl) (aL_nil (blk_n (thn_n (awp_share 1 rfl ?_))))
    refine awp_fact (RowsI (outs2 ++ [⟨v8_3, 2, [(i : Int), (k : Int)]⟩])) (fun w S hps y hy => ?_) ?_
    · rcases List.mem_append.1 hy with hy | hy
      · exact (hps (RowsI outs2) (by simp)) y hy
      · rw [List.mem_singleton.1 hy]; exact hps _ List.mem_cons_self
    refine awp_region (aL_s true rfl rfl (fun _ => q_move rfl) ?_)
    refine aL_s true rfl rfl (fun _ => q_addi rfl rfl (by omega)) ?_
    refine aL_s true rfl rfl (fun _ => q_assign rfl) (aL_nil (thn_n ?_))
    refine ⟨[0, 3, 4, 5], [4, 0], [0], rfl, ?_⟩
    refine ⟨(k + 1, outs2 ++ [⟨v8_3, 2, [(i : Int), (k : Int)]⟩], .slice v8_5 ((outs2.map fun t : Sl Int => [D.v t.val]).length + 1) c8_5), ⟨⟨by dsimp only; omega, ?_⟩, ?_⟩, by dsimp only; omega⟩
    · dsimp only; rw [List.map_append, hout2, plRow_succ, List.append_assoc]; rfl
    · dsimp only; rw [List.map_append]; rfl
   ·skip
    have hkl : k = (elt x.objs.l (i : Int)).secs.l.length := by simp at h2; omega
    subst hkl
    refine awp_exit (thn_e (thn_e (blk_hit (blk_n (thn_n (awp_region (aL_s true rfl rfl (fun _ => q_move rfl) ?_)))))))
    refine aL_s true rfl rfl (fun _ => q_addi rfl rfl (by omega)) ?_
    refine aL_s true rfl rfl (fun _ => q_assign rfl) (aL_nil (thn_n ?_))
    refine ⟨[0, 3, 4], [1, 0], [0], rfl, ?_⟩
    refine ⟨(i + 1, outs2, vo2), ⟨⟨by dsimp only; omega, ?_⟩, rfl⟩, by dsimp only; omega⟩
    dsimp only; rw [hout2, placesN_succ]
  ·skip
   have hil : i = x.objs.l.length := by simp at h1; omega
   subst hil
   dsimp only
   refine awp_exit (thn_e (thn_e (blk_hit (thn_n (awp_seq ?_)))))
   refine awp_formV 0 rfl (fun ao co hvo => ?_)
   rw [List.length_map] at hvo
   subst hvo
   refine awp_share 0 rfl ?_
   refine awp_fact (PairT ⟨ao, co, outs⟩) (fun w S hps => ⟨hps _ List.mem_cons_self, hps (RowsI outs) (by simp)⟩) ?_
   refine awp_region (aL_s true rfl rfl (fun _ => q_move rfl) (aL_s true rfl rfl (fun _ => q_assign rfl) (aL_nil (thn_n (awp_ret ?_)))))
   refine fin1 [3] [] rfl Try.results26 rfl ?_ (.inr rfl)
   exact ⟨rfl, ⟨ao, co, outs⟩, rfl, hout, rfl⟩
/-- pairs in the order of their lists -/
def lessF : List (List Int) → List (List Int) → Bool
  | x :: a, y :: b => if elt x 0 ≠ elt y 0 then decide (elt x 0 < elt y 0) else if elt x 1 ≠ elt y 1 then decide (elt x 1 < elt y 1) else lessF a b
  | _, _ => false
theorem con_rless (a b : Sl (Sl Int)) (hl : a.l.length ≤ b.l.length) (ha : ∀ t ∈ a.l, t.l.length = 2) (hb : ∀ t ∈ b.l, t.l.length = 2) : Con Try.prog 42 [a.val, b.val] [PairT a, PairT b] [] fun r _ _ => r = .bool (lessF (a.l.map (·.l)) (b.l.map (·.l))) := by
  refine Con.enter Try.func42 rfl (by simp [Try.ntmps42]) ?_
  show awp _ _ _ _ ⟨[(0, true, _), (1, true, _)], _, _⟩
  refine awp_lenE (.left (.of (psAt 0 rfl))) (fun hlen => ?_)
  refine awp_seq (awp_region (aL_s true rfl rfl (fun _ => q_assign rfl) (aL_nil (thn_n (awp_seq (awp_seq (awp_region ?_)))))))
  refine aL_s true rfl rfl (fun _ => q_assign rfl) (aL_nil (thn_n (awp_block (awp_loopK [0, 1, 4, 5] [1, 0] [] (fun (k : Nat) st => (k ≤ a.l.length ∧ lessF (a.l.map (·.l)) (b.l.map (·.l)) = lessF ((a.l.drop k).map (·.l)) ((b.l.drop k).map (·.l))) ∧ st = ⟨[(0, true, a.val), (1, true, b.val), (4, true, .bool false), (5, true, .int .i64 k)], [PairT a, PairT b], []⟩) (fun k => a.l.length - k) rfl (⟨0, ⟨Nat.zero_le _, rfl⟩, rfl⟩) ?_))))
  rintro k st ⟨⟨hk, hlf⟩, rfl⟩
  refine awp_seq (awp_seq (awp_region (aL_s true rfl rfl (fun _ => q_move rfl) (aL_s true rfl rfl (fun _ => q_move rfl) (aL_s true rfl rfl (fun _ => q_lenS Try.underlying33 rfl) (aL_s true rfl rfl (fun _ => q_lss rfl rfl) (aL_nil ?_)))))))
  refine thn_n ?_
  refine awp_cond _ rfl (fun h1 => ?_) (fun h1 => ?_)
  ·skip
   have hk' : k < a.l.length := by simp at h1; omega
   obtain ⟨ta, hta⟩ : ∃ t, a.l[k]? = some t := ⟨_, List.getElem?_eq_getElem hk'⟩
   obtain ⟨tb, htb⟩ : ∃ t, b.l[k]? = some t := ⟨_, List.getElem?_eq_getElem (by omega)⟩
   have ha2 := ha ta (List.mem_of_getElem? hta)
   have hb2 := hb tb (List.mem_of_getElem? htb)
   have hst : lessF (a.l.map (·.l)) (b.l.map (·.l)) = if elt ta.l 0 ≠ elt tb.l 0 then decide (elt ta.l 0 < elt tb.l 0) else if elt ta.l 1 ≠ elt tb.l 1 then decide (elt ta.l 1 < elt tb.l 1) else lessF ((a.l.drop (k + 1)).map (·.l)) ((b.l.drop (k + 1)).map (·.l)) := by
     rw [hlf, List.drop_eq_getElem?_toList_append, hta, List.drop_eq_getElem?_toList_append (l := b.l), htb]; rfl
   refine awp_skip (thn_n (awp_seq (awp_block (awp_seq (awp_seq ?_)))))
   refine awp_drawn [] (by kernel_rfl) ?_
   show aB _ _ _ _ _ 13 #[false, false, false, false, false, false, false, false, false, false, false, false, false] _
   refine aB_s 0 rfl (by kernel_rfl) true rfl rfl (fun _ => q_move rfl) ?_
   refine aB_hp (by simp only [nO, nK, nL]; rfl) rfl ?_
   refine aB_s 1 rfl (by kernel_rfl) true rfl rfl (fun _ => q_move rfl) ?_
   refine aB_hp (by simp only [nO, nK, nL]; rfl) rfl ?_
   refine aB_E 2 rfl (by kernel_rfl) true rfl rfl (fun _ => q_indexAddrG Try.underlying33 tk37 rfl ((.left (.of (psAt 0 rfl)))) rfl (rows_get hta) rfl rfl) (fun h => absurd h (by decide)) (fun ⟨b4_2, o4_2⟩ => ?_)
   refine aB_hp (by simp only [nO, nK, nL]; rfl) rfl ?_
   refine aB_s 3 rfl (by kernel_rfl) true rfl rfl (fun _ => q_loadD (o := 0) tk37 rfl (psAt 0 rfl) rfl rfl) ?_
   refine aB_hp (by simp only [nO, nK, nL]; rfl) rfl ?_
   refine aB_E 4 rfl (by kernel_rfl) true rfl rfl (fun _ => q_indexAddrG Try.underlying37 tk3 rfl ((Ent.all (f := ShF fun z : Int => [.v (encI z)]) (Ent.right (.of (psAt 1 rfl))) hta)) rfl (rows_elt (i := 0) (by omega) (by omega)) (by omega) rfl) (fun h => absurd h (by decide)) (fun ⟨b4_4, o4_4⟩ => ?_)
   refine aB_hp (by simp only [nO, nK, nL]; rfl) rfl ?_
   refine aB_s 5 rfl (by kernel_rfl) true rfl rfl (fun _ => q_loadD (o := 0) tk3 rfl (psAt 0 rfl) rfl rfl) ?_
   refine aB_hp (by simp only [nO, nK, nL]; rfl) rfl ?_
   refine aB_s 6 rfl (by kernel_rfl) true rfl rfl (fun _ => q_move rfl) ?_
   refine aB_hp (by simp only [nO, nK, nL]; rfl) rfl ?_
   refine aB_s 7 rfl (by kernel_rfl) true rfl rfl (fun _ => q_move rfl) ?_
   refine aB_hp (by simp only [nO, nK, nL]; rfl) rfl ?_
   refine aB_E 8 rfl (by kernel_rfl) true rfl rfl (fun _ => q_indexAddrG Try.underlying33 tk37 rfl ((.left (.of (psAt 3 rfl)))) rfl (rows_get htb) rfl rfl) (fun h => absurd h (by decide)) (fun ⟨b4_8, o4_8⟩ => ?_)
   refine aB_hp (by simp only [nO, nK, nL]; rfl) rfl ?_
   refine aB_s 9 rfl (by kernel_rfl) true rfl rfl (fun _ => q_loadD (o := 0) tk37 rfl (psAt 0 rfl) rfl rfl) ?_
   refine aB_hp (by simp only [nO, nK, nL]; rfl) rfl ?_
   refine aB_E 10 rfl (by kernel_rfl) true rfl rfl (fun _ => q_indexAddrG Try.underlying37 tk3 rfl ((Ent.all (f := ShF fun z : Int => [.v (encI z)]) (Ent.right (.of (psAt 4 rfl))) htb)) rfl (rows_elt (i := 0) (by omega) (by omega)) (by omega) rfl) (fun h => absurd h (by decide)) (fun ⟨b4_10, o4_10⟩ => ?_)
   refine aB_hp (by simp only [nO, nK, nL]; rfl) rfl ?_
   refine aB_s 11 rfl (by kernel_rfl) true rfl rfl (fun _ => q_loadD (o := 0) tk3 rfl (psAt 0 rfl) rfl rfl) ?_
   refine aB_hp (by simp only [nO, nK, nL]; rfl) rfl ?_
   refine aB_s 12 rfl (by kernel_rfl) true rfl rfl (fun _ => q_neq rfl rfl) ?_
   refine aB_hp (by simp only [nO, nK, nL]; rfl) rfl ?_
   refine aB_nil (by kernel_rfl) ?_
   refine thn_n ?_
   refine awp_cond _ rfl (fun h2 => ?_) (fun h2 => ?_)
   ·skip
    have hne : elt ta.l 0 ≠ elt tb.l 0 := by simpa using h2
    refine awp_seq ?_
    refine awp_drawn [] (by kernel_rfl) ?_
    show aB _ _ _ _ _ 14 #[false, false, false, false, false, false, false, false, false, false, false, false, false, false] _
    refine aB_s 0 rfl (by kernel_rfl) true rfl rfl (fun _ => q_move rfl) ?_
    refine aB_hp (by simp only [nO, nK, nL]; rfl) rfl ?_
    refine aB_s 1 rfl (by kernel_rfl) true rfl rfl (fun _ => q_move rfl) ?_
    refine aB_hp (by simp only [nO, nK, nL]; rfl) rfl ?_
    refine aB_E 2 rfl (by kernel_rfl) true rfl rfl (fun _ => q_indexAddrG Try.underlying33 tk37 rfl ((.left (.of (psAt 4 rfl)))) rfl (rows_get hta) rfl rfl) (fun h => absurd h (by decide)) (fun ⟨b5_2, o5_2⟩ => ?_)
    refine aB_hp (by simp only [nO, nK, nL]; rfl) rfl ?_
    refine aB_s 3 rfl (by kernel_rfl) true rfl rfl (fun _ => q_loadD (o := 0) tk37 rfl (psAt 0 rfl) rfl rfl) ?_
    refine aB_hp (by simp only [nO, nK, nL]; rfl) rfl ?_
    refine aB_E 4 rfl (by kernel_rfl) true rfl rfl (fun _ => q_indexAddrG Try.underlying37 tk3 rfl ((Ent.all (f := ShF fun z : Int => [.v (encI z)]) (Ent.right (.of (psAt 5 rfl))) hta)) rfl (rows_elt (i := 0) (by omega) (by omega)) (by omega) rfl) (fun h => absurd h (by decide)) (fun ⟨b5_4, o5_4⟩ => ?_)
    refine aB_hp (by simp only [nO, nK, nL]; rfl) rfl ?_
    refine aB_s 5 rfl (by kernel_rfl) true rfl rfl (fun _ => q_loadD (o := 0) tk3 rfl (psAt 0 rfl) rfl rfl) ?_
    refine aB_hp (by simp only [nO, nK, nL]; rfl) rfl ?_
    refine aB_s 6 rfl (by kernel_rfl) true rfl rfl (fun _ => q_move rfl) ?_
    refine aB_hp (by simp only [nO, nK, nL]; rfl) rfl ?_
    refine aB_s 7 rfl (by kernel_rfl) true rfl rfl (fun _ => q_move rfl) ?_
    refine aB_hp (by simp only [nO, nK, nL]; rfl) rfl ?_
    refine aB_E 8 rfl (by kernel_rfl) true rfl rfl (fun _ => q_indexAddrG Try.underlying33 tk37 rfl ((.left (.of (psAt 7 rfl)))) rfl (rows_get htb) rfl rfl) (fun h => absurd h (by decide)) (fun ⟨b5_8, o5_8⟩ => ?_)
    refine aB_hp (by simp only [nO, nK, nL]; rfl) rfl ?_
    refine aB_s 9 rfl (by kernel_rfl) true rfl rfl (fun _ => q_loadD (o := 0) tk37 rfl (psAt 0 rfl) rfl rfl) ?_
    refine aB_hp (by simp only [nO, nK, nL]; rfl) rfl ?_
    refine aB_E 10 rfl (by kernel_rfl) true rfl rfl (fun _ => q_indexAddrG Try.underlying37 tk3 rfl ((Ent.all (f := ShF fun z : Int => [.v (encI z)]) (Ent.right (.of (psAt 8 rfl))) htb)) rfl (rows_elt (i := 0) (by omega) (by omega)) (by omega) rfl) (fun h => absurd h (by decide)) (fun ⟨b5_10, o5_10⟩ => ?_)
    refine aB_hp (by simp only [nO, nK, nL]; rfl) rfl ?_
    refine aB_s 11 rfl (by kernel_rfl) true rfl rfl (fun _ => q_loadD (o := 0) tk3 rfl (psAt 0 rfl) rfl rfl) ?_
    refine aB_hp (by simp only [nO, nK, nL]; rfl) rfl ?_
    refine aB_s 12 rfl (by kernel_rfl) true rfl rfl (fun _ => q_lss rfl rfl) ?_
    refine aB_hp (by simp only [nO, nK, nL]; rfl) rfl ?_
    refine aB_s 13 rfl (by kernel_rfl) true rfl rfl (fun _ => q_assign rfl) ?_
    refine aB_hp (by simp only [nO, nK, nL]; rfl) rfl ?_
    refine aB_nil (by kernel_rfl) ?_
    refine thn_n (awp_ret (thn_r (blk_r (thn_r (thn_r (blk_r (thn_r ?_)))))))
    refine fin1 [] [] rfl Try.results42 rfl ?_ (.inr rfl)
    rw [hst, if_pos hne]
   ·skip
    have heq : elt ta.l 0 = elt tb.l 0 := by simpa using h2
    refine awp_skip (thn_n (awp_seq ?_))
    refine awp_drawn [] (by kernel_rfl) ?_
    show aB _ _ _ _ _ 13 #[false, false, false, false, false, false, false, false, false, false, false, false, false] _
    refine aB_s 0 rfl (by kernel_rfl) true rfl rfl (fun _ => q_move rfl) ?_
    refine aB_hp (by simp only [nO, nK, nL]; rfl) rfl ?_
    refine aB_s 1 rfl (by kernel_rfl) true rfl rfl (fun _ => q_move rfl) ?_
    refine aB_hp (by simp only [nO, nK, nL]; rfl) rfl ?_
    refine aB_E 2 rfl (by kernel_rfl) true rfl rfl (fun _ => q_indexAddrG Try.underlying33 tk37 rfl ((.left (.of (psAt 4 rfl)))) rfl (rows_get hta) rfl rfl) (fun h => absurd h (by decide)) (fun ⟨b6_2, o6_2⟩ => ?_)
    refine aB_hp (by simp only [nO, nK, nL]; rfl) rfl ?_
    refine aB_s 3 rfl (by kernel_rfl) true rfl rfl (fun _ => q_loadD (o := 0) tk37 rfl (psAt 0 rfl) rfl rfl) ?_
    refine aB_hp (by simp only [nO, nK, nL]; rfl) rfl ?_
    refine aB_E 4 rfl (by kernel_rfl) true rfl rfl (fun _ => q_indexAddrG Try.underlying37 tk3 rfl ((Ent.all (f := ShF fun z : Int => [.v (encI z)]) (Ent.right (.of (psAt 5 rfl))) hta)) rfl (rows_elt (i := 1) (by omega) (by omega)) (by omega) rfl) (fun h => absurd h (by decide)) (fun ⟨b6_4, o6_4⟩ => ?_)
    refine aB_hp (by simp only [nO, nK, nL]; rfl) rfl ?_
    refine aB_s 5 rfl (by kernel_rfl) true rfl rfl (fun _ => q_loadD (o := 0) tk3 rfl (psAt 0 rfl) rfl rfl) ?_
    refine aB_hp (by simp only [nO, nK, nL]; rfl) rfl ?_
    refine aB_s 6 rfl (by kernel_rfl) true rfl rfl (fun _ => q_move rfl) ?_
    refine aB_hp (by simp only [nO, nK, nL]; rfl) rfl ?_
    refine aB_s 7 rfl (by kernel_rfl) true rfl rfl (fun _ => q_move rfl) ?_
    refine aB_hp (by simp only [nO, nK, nL]; rfl) rfl ?_
    refine aB_E 8 rfl (by kernel_rfl) true rfl rfl (fun _ => q_indexAddrG Try.underlying33 tk37 rfl ((.left (.of (psAt 7 rfl)))) rfl (rows_get htb) rfl rfl) (fun h => absurd h (by decide)) (fun ⟨b6_8, o6_8⟩ => ?_)
    refine aB_hp (by simp only [nO, nK, nL]; rfl) rfl ?_
    refine aB_s 9 rfl (by kernel_rfl) true rfl rfl (fun _ => q_loadD (o := 0) tk37 rfl (psAt 0 rfl) rfl rfl) ?_
    refine aB_hp (by simp only [nO, nK, nL]; rfl) rfl ?_
    refine aB_E 10 rfl (by kernel_rfl) true rfl rfl (fun _ => q_indexAddrG Try.underlying37 tk3 rfl ((Ent.all (f := ShF fun z : Int => [.v (encI z)]) (Ent.right (.of (psAt 8 rfl))) htb)) rfl (rows_elt (i := 1) (by omega) (by omega)) (by omega) rfl) (fun h => absurd h (by decide)) (fun ⟨b6_10, o6_10⟩ => ?_)
    refine aB_hp (by simp only [nO, nK, nL]; rfl) rfl ?_
    refine aB_s 11 rfl (by kernel_rfl) true rfl rfl (fun _ => q_loadD (o := 0) tk3 rfl (psAt 0 rfl) rfl rfl) ?_
    refine aB_hp (by simp only [nO, nK, nL]; rfl) rfl ?_
    refine aB_s 12 rfl (by kernel_rfl) true rfl rfl (fun _ => q_neq rfl rfl) ?_
    refine aB_hp (by simp only [nO, nK, nL]; rfl) rfl ?_
    refine aB_nil (by kernel_rfl) ?_
    refine thn_n ?_
    refine awp_cond _ rfl (fun h3 => ?_) (fun h3 => ?_)
    ·skip
     have hne : elt ta.l 1 ≠ elt tb.l 1 := by simpa using h3
     refine awp_seq ?_
     refine awp_drawn [] (by kernel_rfl) ?_
     show aB _ _ _ _ _ 14 #[false, false, false, false, false, false, false, false, false, false, false, false, false, false] _
     refine aB_s 0 rfl (by kernel_rfl) true rfl rfl (fun _ => q_move rfl) ?_
     refine aB_hp (by simp only [nO, nK, nL]; rfl) rfl ?_
     refine aB_s 1 rfl (by kernel_rfl) true rfl rfl (fun _ => q_move rfl) ?_
     refine aB_hp (by simp only [nO, nK, nL]; rfl) rfl ?_
     refine aB_E 2 rfl (by kernel_rfl) true rfl rfl (fun _ => q_indexAddrG Try.underlying33 tk37 rfl ((.left (.of (psAt 8 rfl)))) rfl (rows_get hta) rfl rfl) (fun h => absurd h (by decide)) (fun ⟨b7_2, o7_2⟩ => ?_)
     refine aB_hp (by simp only [nO, nK, nL]; rfl) rfl ?_
     refine aB_s 3 rfl (by kernel_rfl) true rfl rfl (fun _ => q_loadD (o := 0) tk37 rfl (psAt 0 rfl) rfl rfl) ?_
     refine aB_hp (by simp only [nO, nK, nL]; rfl) rfl ?_
     refine aB_E 4 rfl (by kernel_rfl) true rfl rfl (fun _ => q_indexAddrG Try.underlying37 tk3 rfl ((Ent.all (f := ShF fun z : Int => [.v (encI z)]) (Ent.right (.of (psAt 9 rfl))) hta)) rfl (rows_elt (i := 1) (by omega) (by omega)) (by omega) rfl) (fun h => absurd h (by decide)) (fun ⟨b7_4, o7_4⟩ => ?_)
     refine aB_hp (by simp only [nO, nK, nL]; rfl) rfl ?_
     refine aB_s 5 rfl (by kernel_rfl) true rfl rfl (fun _ => q_loadD (o := 0) tk3 rfl (psAt 0 rfl) rfl rfl) ?_
     refine aB_hp (by simp only [nO, nK, nL]; rfl) rfl ?_
     refine aB_s 6 rfl (by kernel_rfl) true rfl rfl (fun _ => q_move rfl) ?_
     refine aB_hp (by simp only [nO, nK, nL]; rfl) rfl ?_
     refine aB_s 7 rfl (by kernel_rfl) true rfl rfl (fun _ => q_move rfl) ?_
     refine aB_hp (by simp only [nO, nK, nL]; rfl) rfl ?_
     refine aB_E 8 rfl (by kernel_rfl) true rfl rfl (fun _ => q_indexAddrG Try.underlying33 tk37 rfl ((.left (.of (psAt 11 rfl)))) rfl (rows_get htb) rfl rfl) (fun h => absurd h (by decide)) (fun ⟨b7_8, o7_8⟩ => ?_)
     refine aB_hp (by simp only [nO, nK, nL]; rfl) rfl ?_
     refine aB_s 9 rfl (by kernel_rfl) true rfl rfl (fun _ => q_loadD (o := 0) tk37 rfl (psAt 0 rfl) rfl rfl) ?_
     refine aB_hp (by simp only [nO, nK, nL]; rfl) rfl ?_
     refine aB_E 10 rfl (by kernel_rfl) true rfl rfl (fun _ => q_indexAddrG Try.underlying37 tk3 rfl ((Ent.all (f := ShF fun z : Int => [.v (encI z)]) (Ent.right (.of (psAt 12 rfl))) htb)) rfl (rows_elt (i := 1) (by omega) (by omega)) (by omega) rfl) (fun h => absurd h (by decide)) (fun ⟨b7_10, o7_10⟩ => ?_)
     refine aB_hp (by simp only [nO, nK, nL]; rfl) rfl ?_
     refine aB_s 11 rfl (by kernel_rfl) true rfl rfl (fun _ => q_loadD (o := 0) tk3 rfl (psAt 0 rfl) rfl rfl) ?_
     refine aB_hp (by simp only [nO, nK, nL]; rfl) rfl ?_
     refine aB_s 12 rfl (by kernel_rfl) true rfl rfl (fun _ => q_lss rfl rfl) ?_
     refine aB_hp (by simp only [nO, nK, nL]; rfl) rfl ?_
     refine aB_s 13 rfl (by kernel_rfl) true rfl rfl (fun _ => q_assign rfl) ?_
     refine aB_hp (by simp only [nO, nK, nL]; rfl) rfl ?_
     refine aB_nil (by kernel_rfl) ?_
     refine thn_n (awp_ret (blk_r (thn_r (thn_r (blk_r (thn_r ?_))))))
     refine fin1 [] [] rfl Try.results42 rfl ?_ (.inr rfl)
     rw [hst, if_neg (fun h => h heq), if_pos hne]
    ·skip
     have heq1 : elt ta.l 1 = elt tb.l 1 := by simpa using h3
     refine awp_skip (blk_n (thn_n (awp_region (aL_s true rfl rfl (fun _ => q_move rfl) ?_))))
     refine aL_s true rfl rfl (fun _ => q_addi rfl rfl (by omega)) ?_
     refine aL_s true rfl rfl (fun _ => q_assign rfl) (aL_nil (thn_n ?_))
     refine ⟨[0, 1, 4, 5], [1, 0], [], rfl, ?_⟩
     refine ⟨k + 1, ⟨⟨by omega, ?_⟩, rfl⟩, by omega⟩
     rw [hst, if_neg (fun h => h heq), if_neg (fun h => h heq1)]
  ·skip
   refine awp_exit (thn_e (thn_e (blk_hit (thn_n (awp_seq (awp_region (aL_s true rfl rfl (fun _ => q_assign rfl) ?_)))))))
   refine aL_nil (thn_n (awp_ret ?_))
   refine fin1 [] [] rfl Try.results42 rfl ?_ (.inr rfl)
   rw [hlf, List.drop_of_length_le (by simp at h1; omega)]; rfl
end Go.Proofs.Ytnbochlghdkfkaa
namespace Go.Proofs.Ytnbochlghdkfkaa
open Go.RowKit Go.Lp Go.Sy Go.Lv
open Go.Proofs.Try
attribute [local irreducible] aL aB awp aC fwp
abbrev slv (s : Sl (Sl Int)) : List D := [.v s.val]
def wl (s : Sl (Sl Int)) : List (List Int) := s.l.map (·.l)
/-- the place of a number -/
def plN (x : GLink) (i : Int) : List Int := elt (placesN x.objs.l x.objs.l.length) i
def wq (x : GLink) : WP where
  N := cntF x.objs.l x.objs.l.length
  root i := rootF x (elt (plN x i) 0) (elt (plN x i) 1)
  need i k := needsF x (elt (plN x i) 0) (elt (plN x i) 1) (elt (plN x k) 0) (elt (plN x k) 1)
  better c y := y.isEmpty || decide (c.length < y.length) || (decide (c.length = y.length) && lessF (c.map (plN x)) (y.map (plN x)))
theorem mapRel_elt {α β γ : Type} [Inhabited α] [Inhabited β] {f : α → γ} {g : β → γ} {l : List α} {m : List β} (h : l.map f = m.map g) {i : Nat} (hi : i < m.length) : f (elt l (i : Int)) = g (elt m (i : Int)) := by
  have hl : l.length = m.length := by simpa using congrArg List.length h
  have h1 := congrArg (fun z => z[i]?) h
  rw [List.getElem?_map, List.getElem?_map, elt_nat (l := l) (by omega), elt_nat hi] at h1
  exact Option.some.inj h1
theorem pl_two {os : List GObject} {n : Nat} {t : List Int} (h : t ∈ placesN os n) : t.length = 2 := by
  unfold placesN plRow at h
  obtain ⟨i, _, h⟩ := List.mem_flatMap.1 h
  obtain ⟨k, _, rfl⟩ := List.mem_map.1 h
  rfl
theorem wl_len {s : Sl (Sl Int)} {l : List Int} {f : Int → List Int} (h : wl s = l.map f) : s.l.length = l.length := by simpa [wl] using congrArg List.length h
/-- the table of the ways -/
abbrev WayT (s : Sl (Sl (Sl Int))) : Per := AndP (ShF slv s) (AllF PairT s.l)
theorem rel_set {f : Sl (Sl Int) → List (List Int)} {g : List Int → List (List Int)} {l : List (Sl (Sl Int))} {m : WT} (h : l.map f = m.map g) {k : Nat} {a : Sl (Sl Int)} {b : List Int} (e : f a = g b) : (l.set k a).map f = (m.set k b).map g := by rw [List.map_set, List.map_set, h, e]
theorem cand_eq {x : GLink} {W : WT} {i k m n : Nat} {b : Bool} (h1 : m = (elt W (i : Int)).length) (h2 : n = (elt W (k : Int)).length) (h3 : b = (wq x).need i k) : (wq x).cand W i k = !((decide ((m : Int) = 0) || decide ((n : Int) > 0)) || !b) := by
  subst h3; subst h1; subst h2
  unfold WP.cand
  cases (elt W (i : Int)) <;> cases (elt W (k : Int)) <;> simp
  all_goals omega
theorem better_eq {x : GLink} {s t : Sl (Sl Int)} {c y : List Int} (h1 : wl s = c.map (plN x)) (h2 : wl t = y.map (plN x)) : ((decide ((t.l.length : Int) = 0) || decide ((s.l.length : Int) < t.l.length)) || (decide ((s.l.length : Int) = t.l.length) && lessF (s.l.map (·.l)) (t.l.map (·.l)))) = (wq x).better c y := by
  have l1 := wl_len h1
  have l2 := wl_len h2
  have e1 : s.l.map (·.l) = c.map (plN x) := h1
  have e2 : t.l.map (·.l) = y.map (plN x) := h2
  rw [e1, e2, l1, l2]
  show _ = (y.isEmpty || decide (c.length < y.length) || (decide (c.length = y.length) && lessF (c.map (plN x)) (y.map (plN x))))
  have d1 : decide ((y.length : Int) = 0) = y.isEmpty := by cases y <;> simp; omega
  have d2 : decide ((c.length : Int) < (y.length : Int)) = decide (c.length < y.length) := decide_eq_decide.2 (by omega)
  have d3 : decide ((c.length : Int) = (y.length : Int)) = decide (c.length = y.length) := decide_eq_decide.2 (by omega)
  rw [d1, d2, d3]
set_option maxHeartbeats 4000000 in
theorem con_ways (x : GLink) (hf : FewL x.objs.l) : Con Try.prog 27 [x.r.val, x.objs.val, x.keep.val, x.choices.val] [x.ok] [] fun r ps hp => hp = [] ∧ ∃ (s : Sl (Sl (Sl Int))) (j : Nat), r = s.val ∧ s.l.map wl = ((wq x).iter j).map (List.map (plN x)) ∧ WP.any ((wq x).next ((wq x).iter j) (wq x).N) (wq x).N = false ∧ ps = [WayT s] := by
  have hcn := cnt_le (fun o ho => (hf.of o ho).1) _ (Nat.le_refl x.objs.l.length)
  have hn4 := hf.n
  obtain ⟨N, hN⟩ : ∃ N, cntF x.objs.l x.objs.l.length = N := ⟨_, rfl⟩
  have hQN : (wq x).N = N := hN
  have hN24 : N ≤ 24 := by omega
  refine Con.enter Try.func27 rfl (by simp [Try.ntmps27]) ?_
  show awp _ _ _ _ ⟨[(0, true, _), (1, true, _), (2, true, _), (3, true, _)], _, _⟩
  refine awp_seq (awp_region ?_)
  refine aL_eff (q := true) rfl (x_box rfl rfl rfl (fun b0_0 => ?_))
  refine aL_hp (by (try simp only [nM, nN]); rfl) ?_
  refine aL_s true rfl rfl (fun _ => q_assign rfl) (aL_nil (thn_n (awp_seq (awp_region (aL_s true rfl rfl (fun _ => q_move rfl) ?_)))))
  refine aL_eff (q := true) rfl (e_call [0] [] (by kernel_rfl) rfl rfl rfl rfl (con_places x hf) ?_)
  rintro _ _ _ ⟨rfl, aw, rfl, haw, rfl⟩
  refine aL_st (by (try simp only [nM, nN]); rfl) (by (try simp only [putB, place, Nat.reduceBEq, nA, if_true, if_false, reduceIte, nB, nC, nD, nE, nF, nG, nH, nI, Nat.reduceAdd, nJ, beq_self_eq_true, nK, nL, nM, nN]); rfl) ?_
  refine aL_s true rfl rfl (fun _ => q_assign rfl) (aL_nil (thn_n (awp_seq ?_)))
  have hawl : aw.l.length = N := by rw [← hN, ← placesN_len, ← haw, List.length_map]
  have hpl : ∀ i : Nat, i < N → aw.l[i]? = some (elt aw.l (i : Int)) ∧ (elt aw.l (i : Int)).l = plN x i ∧ (elt aw.l (i : Int)).l.length = 2 ∧ elt aw.l (i : Int) ∈ aw.l := fun i hi => by
    have h1 := elt_nat (l := aw.l) (i := i) (by omega)
    have h2 := congrArg (fun z => z[i]?) haw
    rw [List.getElem?_map, h1, elt_nat (l := placesN _ _) (i := i) (by rw [placesN_len, hN]; exact hi)] at h2
    have h3 : (elt aw.l (i : Int)).l = elt (placesN x.objs.l x.objs.l.length) (i : Int) := Option.some.inj h2
    refine ⟨h1, h3, ?_, List.mem_of_getElem? h1⟩
    rw [h3]; exact pl_two (List.mem_of_getElem? (elt_nat (l := placesN x.objs.l x.objs.l.length) (i := i) (by rw [placesN_len, hN]; exact hi)))
  have hp2 : ∀ (l : List Int), (wq x).Ok l → ∀ z ∈ l.map (plN x), z.length = 2 := fun l hl z hz => by
    obtain ⟨u, hu, rfl⟩ := List.mem_map.1 hz
    obtain ⟨h0, h1⟩ := hl u hu
    rw [hQN] at h1
    have := hpl u.toNat (by omega)
    rw [Int.toNat_of_nonneg h0] at this
    rw [← this.2.1]; exact this.2.2.1
  refine awp_region (aL_s true rfl rfl (fun _ => q_move rfl) (aL_s true rfl rfl (fun _ => q_lenS Try.underlying33 rfl) ?_))
  refine aL_eff (q := true) rfl (w_make (m := N) (zs := [.slice none 0 0]) el84 (by kernel_rfl) rfl (by decide) (ev_int rfl (by rw [hawl])) (ev_int rfl (by rw [hawl])) (by omega) rfl (fun v2_2 => ?_))
  refine aL_hp (by (try simp only [nM, nN]); rfl) ?_
  refine aL_s true rfl rfl (fun _ => q_assign rfl) (aL_nil (thn_n (awp_seq (awp_seq (awp_region (aL_s true rfl rfl (fun _ => q_assign rfl) (aL_nil ?_)))))))
  refine thn_n (awp_block ?_)
  refine awp_fact (AllF PairT (List.replicate N default)) (fun w S hps y hy => by rw [(List.mem_replicate.1 hy).2]; exact ⟨.e _ _ (Nat.zero_le _), fun z hz => by cases hz⟩) ?_
  refine awp_loopK [1, 2, 3, 4, 9, 10, 11] [2, 1, 0] [0, 1] (fun (p : Nat × List (Sl (Sl Int))) st => (p.1 ≤ N ∧ p.2.map wl = ((wq x).roots p.1).map (List.map (plN x))) ∧ st = ⟨[(1, true, x.objs.val), (2, true, x.keep.val), (3, true, x.choices.val), (4, true, .pointer (some ⟨b0_0, 0, none⟩)), (9, true, aw.val), (10, true, .slice v2_2 N N), (11, true, .int .i64 p.1)], [AllF PairT p.2, PairT aw, x.ok], [Box b0_0 25 x.r.vs, OwnS (.slice v2_2 N N) 33 1 (p.2.map slv)]⟩) (fun p => N - p.1) rfl (⟨(0, List.replicate N default), ⟨Nat.zero_le _, by show _ = (List.replicate (wq x).N []).map _; rw [hQN]; simp [wl]; exact .inr rfl⟩, by dsimp only; rw [List.map_replicate]; rfl⟩) ?_
  rintro ⟨i, outs⟩ st ⟨⟨hi, hrel⟩, rfl⟩
  dsimp only at hi hrel
  have hol : outs.length = N := by have := congrArg List.length hrel; rw [List.length_map, List.length_map, WP.roots_len, hQN] at this; exact this
  refine awp_seq (awp_seq (awp_region (aL_s true rfl rfl (fun _ => q_move rfl) (aL_s true rfl rfl (fun _ => q_move rfl) (aL_s true rfl rfl (fun _ => q_lenS Try.underlying33 rfl) (aL_s true rfl rfl (fun _ => q_lss rfl rfl) (aL_nil ?_)))))))
  refine thn_n ?_
  refine awp_cond _ rfl (fun h1 => ?_) (fun h1 => ?_)
  ·skip
   have hi' : i < N := by simp at h1; omega
   obtain ⟨g1, g2, g3, g4⟩ := hpl i hi'
   refine awp_skip (thn_n (awp_seq (awp_block (awp_seq ?_))))
   refine awp_drawn [] (by kernel_rfl) ?_
   show aB _ _ _ _ _ 17 #[false, false, false, false, false, false, false, false, false, false, false, false, false, false, false, false, false] _
   refine aB_s 0 rfl (by kernel_rfl) true rfl rfl (fun _ => q_load 0 tk25 rfl rfl rfl) ?_
   refine aB_hp (by simp only [nO, nK, nL]; rfl) rfl ?_
   refine aB_s 1 rfl (by kernel_rfl) true rfl rfl (fun _ => q_move rfl) ?_
   refine aB_hp (by simp only [nO, nK, nL]; rfl) rfl ?_
   refine aB_s 2 rfl (by kernel_rfl) true rfl rfl (fun _ => q_move rfl) ?_
   refine aB_hp (by simp only [nO, nK, nL]; rfl) rfl ?_
   refine aB_s 3 rfl (by kernel_rfl) true rfl rfl (fun _ => q_move rfl) ?_
   refine aB_hp (by simp only [nO, nK, nL]; rfl) rfl ?_
   refine aB_s 4 rfl (by kernel_rfl) true rfl rfl (fun _ => q_move rfl) ?_
   refine aB_hp (by simp only [nO, nK, nL]; rfl) rfl ?_
   refine aB_s 5 rfl (by kernel_rfl) true rfl rfl (fun _ => q_move rfl) ?_
   refine aB_hp (by simp only [nO, nK, nL]; rfl) rfl ?_
   refine aB_E 6 rfl (by kernel_rfl) true rfl rfl (fun _ => q_indexAddrG Try.underlying33 tk37 rfl ((.left (.of (psAt 1 rfl)))) rfl (rows_get g1) rfl rfl) (fun h => absurd h (by decide)) (fun ⟨b6_6, o6_6⟩ => ?_)
   refine aB_hp (by simp only [nO, nK, nL]; rfl) rfl ?_
   refine aB_s 7 rfl (by kernel_rfl) true rfl rfl (fun _ => q_loadD (o := 0) tk37 rfl (psAt 0 rfl) rfl rfl) ?_
   refine aB_hp (by simp only [nO, nK, nL]; rfl) rfl ?_
   refine aB_E 8 rfl (by kernel_rfl) true rfl rfl (fun _ => q_indexAddrG Try.underlying37 tk3 rfl ((Ent.all (f := ShF fun z : Int => [.v (encI z)]) (Ent.right (.of (psAt 2 rfl))) g1)) rfl (rows_elt (i := 0) (by omega) (by omega)) (by omega) rfl) (fun h => absurd h (by decide)) (fun ⟨b6_8, o6_8⟩ => ?_)
   refine aB_hp (by simp only [nO, nK, nL]; rfl) rfl ?_
   refine aB_s 9 rfl (by kernel_rfl) true rfl rfl (fun _ => q_loadD (o := 0) tk3 rfl (psAt 0 rfl) rfl rfl) ?_
   refine aB_hp (by simp only [nO, nK, nL]; rfl) rfl ?_
   refine aB_s 10 rfl (by kernel_rfl) true rfl rfl (fun _ => q_move rfl) ?_
   refine aB_hp (by simp only [nO, nK, nL]; rfl) rfl ?_
   refine aB_s 11 rfl (by kernel_rfl) true rfl rfl (fun _ => q_move rfl) ?_
   refine aB_hp (by simp only [nO, nK, nL]; rfl) rfl ?_
   refine aB_E 12 rfl (by kernel_rfl) true rfl rfl (fun _ => q_indexAddrG Try.underlying33 tk37 rfl ((.left (.of (psAt 3 rfl)))) rfl (rows_get g1) rfl rfl) (fun h => absurd h (by decide)) (fun ⟨b6_12, o6_12⟩ => ?_)
   refine aB_hp (by simp only [nO, nK, nL]; rfl) rfl ?_
   refine aB_s 13 rfl (by kernel_rfl) true rfl rfl (fun _ => q_loadD (o := 0) tk37 rfl (psAt 0 rfl) rfl rfl) ?_
   refine aB_hp (by simp only [nO, nK, nL]; rfl) rfl ?_
   refine aB_E 14 rfl (by kernel_rfl) true rfl rfl (fun _ => q_indexAddrG Try.underlying37 tk3 rfl ((Ent.all (f := ShF fun z : Int => [.v (encI z)]) (Ent.right (.of (psAt 4 rfl))) g1)) rfl (rows_elt (i := 1) (by omega) (by omega)) (by omega) rfl) (fun h => absurd h (by decide)) (fun ⟨b6_14, o6_14⟩ => ?_)
   refine aB_hp (by simp only [nO, nK, nL]; rfl) rfl ?_
   refine aB_s 15 rfl (by kernel_rfl) true rfl rfl (fun _ => q_loadD (o := 0) tk3 rfl (psAt 0 rfl) rfl rfl) ?_
   refine aB_hp (by simp only [nO, nK, nL]; rfl) rfl ?_
   refine aB_s 16 rfl (by kernel_rfl) true rfl rfl (fun _ => q_call (by kernel_rfl) rfl (fun w S fp hst => (con_root x _ _).quiet1 (psAt 6 rfl) hst)) ?_
   refine aB_hp (by simp only [nO, nK, nL]; rfl) rfl ?_
   refine aB_nil (by kernel_rfl) ?_
   refine thn_n ?_
   refine awp_cond _ rfl (fun h2 => ?_) (fun h2 => ?_)
   ·skip
    have hrt : (wq x).root i = true := by show rootF x (elt (plN x i) 0) (elt (plN x i) 1) = true; rw [← g2]; exact h2
    refine awp_formO 1 rfl (fun h0 => by have h0' : outs.length = 0 := (by simpa using congrArg List.length h0); omega) (fun B cp hvb => ?_)
    obtain ⟨rfl, rfl⟩ : v2_2 = some ⟨B, 0, none⟩ ∧ N = cp := by simp at hvb; exact ⟨hvb.1, hvb.2.2⟩
    have hro : (outs.map slv)[i]? = some (slv (elt outs (i : Int))) := by rw [List.getElem?_map, elt_nat (by omega)]; rfl
    refine awp_region (aL_s true rfl rfl (fun _ => q_move rfl) (aL_s true rfl rfl (fun _ => q_move rfl) (aL_s true rfl rfl (fun _ => q_move rfl) (aL_s true rfl rfl (fun _ => q_move rfl) ?_))))
    refine aL_E true rfl rfl (fun _ => q_indexAddrG Try.underlying33 tk37 rfl ((.left (.of (psAt 5 rfl)))) rfl (rows_get g1) rfl rfl) (fun h => absurd h (by decide)) (fun ⟨b7_4, o7_4⟩ => ?_)
    refine aL_s true rfl rfl (fun _ => q_loadD (o := 0) tk37 rfl (psAt 0 rfl) rfl rfl) ?_
    refine aL_eff (q := true) rfl (w_lit (zs := [.slice none 0 0]) (l := [(0, .tmp 51)]) el33 (by kernel_rfl) (by decide) (by decide) (by decide) rfl rfl rfl (.more rfl (.v rfl .nil) .nil) rfl rfl (fun v7_6 => ?_))
    refine aL_hp (by (try simp only [nM, nN]); rfl) ?_
    refine aL_s true rfl rfl (fun _ => q_idxV i el84 rfl rfl rfl hi') (aL_share 2 rfl ?_)
    refine aL_fact (AllF PairT (outs.set i ⟨v7_6, 1, [elt aw.l (i : Int)]⟩)) (fun w S hps y hy => ?_) ?_
    · rcases List.mem_or_eq_of_mem_set hy with hy | rfl
      · exact (hps (AllF PairT outs) (by simp)) y hy
      · exact ⟨hps _ List.mem_cons_self, fun z hz => by rw [List.mem_singleton.1 hz]; exact (hps (PairT aw) (by simp)).2 _ g4⟩
    refine aL_eff (q := false) rfl (e_storeO 1 i 0 tk33 rfl rfl rfl hro rfl (.v rfl .nil) rfl (by decide) ?_)
    refine aL_nil (blk_n (thn_n (awp_region (aL_s true rfl rfl (fun _ => q_move rfl) ?_))))
    refine aL_s true rfl rfl (fun _ => q_addi rfl rfl (by omega)) ?_
    refine aL_s true rfl rfl (fun _ => q_assign rfl) (aL_nil (thn_n ?_))
    refine ⟨[1, 2, 3, 4, 9, 10, 11], [9, 1, 0], [0, 1], rfl, ?_⟩
    refine ⟨(i + 1, outs.set i ⟨v7_6, 1, [elt aw.l (i : Int)]⟩), ⟨⟨by dsimp only; omega, ?_⟩, ?_⟩, by dsimp only; omega⟩
    · dsimp only; rw [WP.roots_succ]; unfold WP.rootStep; rw [if_pos hrt]; exact rel_set hrel (by show [(elt aw.l (i : Int)).l] = [plN x i]; rw [g2])
    · dsimp only; rw [List.map_set]; rfl
   ·skip
    have hrt : (wq x).root i = false := by show rootF x (elt (plN x i) 0) (elt (plN x i) 1) = false; rw [← g2]; exact h2
    refine awp_skip (blk_n (thn_n (awp_region (aL_s true rfl rfl (fun _ => q_move rfl) ?_))))
    refine aL_s true rfl rfl (fun _ => q_addi rfl rfl (by omega)) ?_
    refine aL_s true rfl rfl (fun _ => q_assign rfl) (aL_nil (thn_n ?_))
    refine ⟨[1, 2, 3, 4, 9, 10, 11], [2, 1, 0], [0, 1], rfl, ?_⟩
    refine ⟨(i + 1, outs), ⟨⟨by dsimp only; omega, ?_⟩, rfl⟩, by dsimp only; omega⟩
    dsimp only; rw [WP.roots_succ]; unfold WP.rootStep; rw [if_neg (by rw [hrt]; decide)]; exact hrel
  ·skip
   have hie : i = N := by simp at h1; omega
   subst hie
   refine awp_exit (thn_e (thn_e (blk_hit (thn_n (awp_seq (awp_seq (awp_region ?_)))))))
   refine aL_s true rfl rfl (fun _ => q_assign rfl) (aL_nil (thn_n (awp_block ?_)))
   refine awp_loopK [1, 2, 3, 9, 10, 12] [2, 1, 0] [1] (fun (p : List (Sl (Sl Int)) × WT × Bool) st => ((∃ j, p.2.1 = (wq x).iter j) ∧ p.1.map wl = p.2.1.map (List.map (plN x)) ∧ (p.2.2 = false → WP.any ((wq x).next p.2.1 i) i = false)) ∧ st = ⟨[(1, true, x.objs.val), (2, true, x.keep.val), (3, true, x.choices.val), (9, true, aw.val), (10, true, .slice v2_2 i i), (12, true, .bool p.2.2)], [AllF PairT p.1, PairT aw, x.ok], [OwnS (.slice v2_2 i i) 33 1 (p.1.map slv)]⟩) (fun p => 2 * WP.empt p.2.1 + (if p.2.2 then 1 else 0)) rfl (⟨(outs, (wq x).roots i, true), ⟨⟨0, by show _ = (wq x).roots (wq x).N; rw [hQN]⟩, hrel, fun h => by cases h⟩, rfl⟩) ?_
   rintro ⟨outs2, W, ag⟩ st ⟨⟨⟨j, hj⟩, hrel2, hfix⟩, rfl⟩
   dsimp only at hj hrel2 hfix
   have hWl : W.length = i := by rw [hj, WP.iter_len, hQN]
   have hol2 : outs2.length = i := by have := congrArg List.length hrel2; rw [List.length_map, List.length_map, hWl] at this; exact this
   have hWok : ∀ k : Nat, (wq x).Ok (elt W (k : Int)) := fun k => by rw [hj]; exact WP.iter_ok _ _ _
   have hWb : ∀ k : Nat, (elt W (k : Int)).length ≤ 24 := fun k => by
     by_cases he : elt W (k : Int) = []
     · rw [he]; exact Nat.zero_le _
     · rw [hj] at he ⊢; have := WP.iter_bound (wq x) j k he; omega
   have hsl : ∀ k : Nat, k < i → wl (elt outs2 (k : Int)) = (elt W (k : Int)).map (plN x) := fun k hk => mapRel_elt hrel2 (by omega)
   refine awp_seq (awp_seq (awp_region (aL_s true rfl rfl (fun _ => q_move rfl) (aL_nil (thn_n ?_)))))
   refine awp_cond _ rfl (fun h3 => ?_) (fun h3 => ?_)
   ·skip
    have hag : ag = true := h3
    refine awp_skip (thn_n (awp_block (awp_seq (awp_region (aL_s true rfl rfl (fun _ => q_assign rfl) (aL_nil (thn_n ?_)))))))
    refine awp_seq (awp_region (aL_s true rfl rfl (fun _ => q_move rfl) (aL_s true rfl rfl (fun _ => q_lenS Try.underlying33 rfl) ?_)))
    refine aL_eff (q := true) rfl (w_make (m := i) (zs := [.slice none 0 0]) el84 (by kernel_rfl) rfl (by decide) (ev_int rfl (by rw [hawl])) (ev_int rfl (by rw [hawl])) (by omega) rfl (fun v11_2 => ?_))
    refine aL_hp (by (try simp only [nM, nN]); rfl) ?_
    refine aL_s true rfl rfl (fun _ => q_assign rfl) (aL_nil (thn_n (awp_seq (awp_seq (awp_region (aL_s true rfl rfl (fun _ => q_assign rfl) (aL_nil ?_)))))))
    refine thn_n (awp_block ?_)
    refine awp_fact (AllF PairT (List.replicate i default)) (fun w S hps y hy => by rw [(List.mem_replicate.1 hy).2]; exact ⟨.e _ _ (Nat.zero_le _), fun z hz => by cases hz⟩) ?_
    refine awp_loopK [1, 2, 3, 9, 10, 12, 13, 14] [3, 2, 1, 0] [0, 1] (fun (p : Nat × List (Sl (Sl Int))) st => (p.1 ≤ i ∧ p.2.map wl = ((wq x).next W p.1).map (List.map (plN x))) ∧ st = ⟨[(1, true, x.objs.val), (2, true, x.keep.val), (3, true, x.choices.val), (9, true, aw.val), (10, true, .slice v2_2 i i), (12, true, .bool false), (13, true, .slice v11_2 i i), (14, true, .int .i64 p.1)], [AllF PairT p.2, AllF PairT outs2, PairT aw, x.ok], [OwnS (.slice v2_2 i i) 33 1 (outs2.map slv), OwnS (.slice v11_2 i i) 33 1 (p.2.map slv)]⟩) (fun p => i - p.1) rfl (⟨(0, List.replicate i default), ⟨Nat.zero_le _, by show _ = (List.replicate (wq x).N []).map _; rw [hQN]; simp [wl]; exact .inr rfl⟩, by dsimp only; rw [List.map_replicate]; rfl⟩) ?_
    rintro ⟨m, nx⟩ st ⟨⟨hm, hnx⟩, rfl⟩
    dsimp only at hm hnx
    have hnl : nx.length = i := by have := congrArg List.length hnx; rw [List.length_map, List.length_map, WP.next_len, hQN] at this; exact this
    refine awp_seq (awp_seq (awp_region (aL_s true rfl rfl (fun _ => q_move rfl) (aL_s true rfl rfl (fun _ => q_move rfl) (aL_s true rfl rfl (fun _ => q_lenS Try.underlying33 rfl) (aL_s true rfl rfl (fun _ => q_lss rfl rfl) (aL_nil ?_)))))))
    refine thn_n ?_
    refine awp_cond _ rfl (fun h4 => ?_) (fun h4 => ?_)
    ·skip
     have hm' : m < i := by simp at h4; omega
     refine awp_formO 0 rfl (fun h0 => by have h0' : outs2.length = 0 := (by simpa using congrArg List.length h0); omega) (fun B cp hvb => ?_)
     obtain ⟨rfl, rfl⟩ : v2_2 = some ⟨B, 0, none⟩ ∧ i = cp := by simp at hvb; exact ⟨hvb.1, hvb.2.2⟩
     refine awp_formO 1 rfl (fun h0 => by have h0' : nx.length = 0 := (by simpa using congrArg List.length h0); omega) (fun B2 cp2 hvb2 => ?_)
     obtain ⟨rfl, rfl⟩ : v11_2 = some ⟨B2, 0, none⟩ ∧ i = cp2 := by simp at hvb2; exact ⟨hvb2.1, hvb2.2.2⟩
     obtain ⟨g1, g2, g3, g4⟩ := hpl m hm'
     have hom : (outs2.map slv)[m]? = some (slv (elt outs2 (m : Int))) := by rw [List.getElem?_map, elt_nat (by omega)]; rfl
     have hlm := wl_len (hsl m hm')
     refine awp_skip (thn_n (awp_seq (awp_block (awp_seq (awp_region (aL_s true rfl rfl (fun _ => q_assign rfl) (aL_nil ?_)))))))
     refine thn_n (awp_block (awp_loopK [1, 2, 3, 9, 10, 12, 13, 14, 15] [3, 2, 1, 0] [0, 1] (fun (p : Nat × List (Sl (Sl Int))) st => (p.1 ≤ i ∧ p.2.map wl = ((wq x).row W m ((wq x).next W m) p.1).map (List.map (plN x))) ∧ st = ⟨[(1, true, x.objs.val), (2, true, x.keep.val), (3, true, x.choices.val), (9, true, aw.val), (10, true, .slice (some ⟨B, 0, none⟩) i i), (12, true, .bool false), (13, true, .slice (some ⟨B2, 0, none⟩) i i), (14, true, .int .i64 m), (15, true, .int .i64 p.1)], [AllF PairT p.2, AllF PairT outs2, PairT aw, x.ok], [OwnS (.slice (some ⟨B, 0, none⟩) i i) 33 1 (outs2.map slv), OwnS (.slice (some ⟨B2, 0, none⟩) i i) 33 1 (p.2.map slv)]⟩) (fun p => i - p.1) rfl (⟨(0, nx), ⟨Nat.zero_le _, hnx⟩, rfl⟩) ?_))
     rintro ⟨k, nk⟩ st ⟨⟨hk, hnk⟩, rfl⟩
     dsimp only at hk hnk
     have hnkl : nk.length = i := by have := congrArg List.length hnk; rw [List.length_map, List.length_map, WP.row_len, WP.next_len, hQN] at this; exact this
     have hst := WP.row_succ (wq x) W m ((wq x).next W m) k
     refine awp_seq (awp_seq (awp_region (aL_s true rfl rfl (fun _ => q_move rfl) (aL_s true rfl rfl (fun _ => q_move rfl) (aL_s true rfl rfl (fun _ => q_lenS Try.underlying33 rfl) (aL_s true rfl rfl (fun _ => q_lss rfl rfl) (aL_nil ?_)))))))
     refine thn_n ?_
     refine awp_cond _ rfl (fun h5 => ?_) (fun h5 => ?_)
     ·skip
      have hk' : k < i := by simp at h5; omega
      obtain ⟨e1, e2, e3, e4⟩ := hpl k hk'
      have hok : (outs2.map slv)[k]? = some (slv (elt outs2 (k : Int))) := by rw [List.getElem?_map, elt_nat (by omega)]; rfl
      have hnkk : (nk.map slv)[k]? = some (slv (elt nk (k : Int))) := by rw [List.getElem?_map, elt_nat (by omega)]; rfl
      have hlk := wl_len (hsl k hk')
      have hwk : wl (elt nk (k : Int)) = (elt ((wq x).row W m ((wq x).next W m) k) (k : Int)).map (plN x) := mapRel_elt hnk (by rw [WP.row_len, WP.next_len, hQN]; exact hk')
      refine awp_skip (thn_n (awp_seq (awp_block (awp_seq (awp_seq ?_)))))
      refine awp_drawn [] (by kernel_rfl) ?_
      show aB _ _ _ _ _ 45 #[false, false, false, false, false, false, false, false, false, false, false, false, false, false, false, false, false, false, false, false, false, false, false, false, false, false, false, false, false, false, false, false, false, false, false, false, false, false, false, false, false, false, false, false, false] _
      refine aB_s 0 rfl (by kernel_rfl) true rfl rfl (fun _ => q_move rfl) ?_
      refine aB_hp (by simp only [nO, nK, nL]; rfl) rfl ?_
      refine aB_s 1 rfl (by kernel_rfl) true rfl rfl (fun _ => q_move rfl) ?_
      refine aB_hp (by simp only [nO, nK, nL]; rfl) rfl ?_
      refine aB_s 2 rfl (by kernel_rfl) true rfl rfl (fun _ => q_idxV m el84 rfl rfl rfl hm') ?_
      refine aB_hp (by simp only [nO, nK, nL]; rfl) rfl ?_
      refine aB_s 3 rfl (by kernel_rfl) true rfl rfl (fun _ => q_loadO (v := .slice (some ⟨B, 0, none⟩) i i) (u := (elt outs2 (m : Int)).val) 0 m 0 tk33 rfl rfl hom rfl rfl) ?_
      refine aB_hp (by simp only [nO, nK, nL]; rfl) rfl ?_
      refine aB_s 4 rfl (by kernel_rfl) true rfl rfl (fun _ => q_lenS Try.underlying33 rfl) ?_
      refine aB_hp (by simp only [nO, nK, nL]; rfl) rfl ?_
      refine aB_s 5 rfl (by kernel_rfl) true rfl rfl (fun _ => q_eql rfl rfl) ?_
      refine aB_hp (by simp only [nO, nK, nL]; rfl) rfl ?_
      refine aB_s 6 rfl (by kernel_rfl) true rfl rfl (fun _ => q_move rfl) ?_
      refine aB_hp (by simp only [nO, nK, nL]; rfl) rfl ?_
      refine aB_s 7 rfl (by kernel_rfl) _ rfl rfl (fun hc => q_move rfl) ?_
      refine aB_hp (by simp only [nO, nK, nL]; rfl) rfl ?_
      refine aB_s 8 rfl (by kernel_rfl) _ rfl rfl (fun hc => q_move rfl) ?_
      refine aB_hp (by simp only [nO, nK, nL]; rfl) rfl ?_
      refine aB_s 9 rfl (by kernel_rfl) _ rfl rfl (fun hc => q_idxV k el84 (ev_yes rfl hc) (ev_yes rfl hc) rfl hk') ?_
      refine aB_hp (by simp only [nO, nK, nL]; rfl) rfl ?_
      refine aB_s 10 rfl (by kernel_rfl) _ rfl rfl (fun hc => q_loadO (v := .slice (some ⟨B, 0, none⟩) i i) (u := (elt outs2 (k : Int)).val) 0 k 0 tk33 (ev_yes rfl hc) rfl hok rfl rfl) ?_
      refine aB_hp (by simp only [nO, nK, nL]; rfl) rfl ?_
      refine aB_s 11 rfl (by kernel_rfl) _ rfl rfl (fun hc => q_lenS Try.underlying33 (ev_yes rfl hc)) ?_
      refine aB_hp (by simp only [nO, nK, nL]; rfl) rfl ?_
      refine aB_s 12 rfl (by kernel_rfl) _ rfl rfl (fun hc => q_gtr (ev_yes rfl hc) rfl) ?_
      refine aB_hp (by simp only [nO, nK, nL]; rfl) rfl ?_
      refine aB_s 13 rfl (by kernel_rfl) true rfl rfl (fun _ => q_or rfl rfl (fun h => gf rfl h)) ?_
      refine aB_hp (by simp only [nO, nK, nL]; rfl) rfl ?_
      refine aB_s 14 rfl (by kernel_rfl) true rfl rfl (fun _ => q_move rfl) ?_
      refine aB_hp (by simp only [nO, nK, nL]; rfl) rfl ?_
      refine aB_s 15 rfl (by kernel_rfl) _ rfl rfl (fun hc => q_move rfl) ?_
      refine aB_hp (by simp only [nO, nK, nL]; rfl) rfl ?_
      refine aB_s 16 rfl (by kernel_rfl) _ rfl rfl (fun hc => q_move rfl) ?_
      refine aB_hp (by simp only [nO, nK, nL]; rfl) rfl ?_
      refine aB_s 17 rfl (by kernel_rfl) _ rfl rfl (fun hc => q_move rfl) ?_
      refine aB_hp (by simp only [nO, nK, nL]; rfl) rfl ?_
      refine aB_s 18 rfl (by kernel_rfl) _ rfl rfl (fun hc => q_move rfl) ?_
      refine aB_hp (by simp only [nO, nK, nL]; rfl) rfl ?_
      refine aB_s 19 rfl (by kernel_rfl) _ rfl rfl (fun hc => q_move rfl) ?_
      refine aB_hp (by simp only [nO, nK, nL]; rfl) rfl ?_
      refine aB_E 20 rfl (by kernel_rfl) _ rfl rfl (fun hc => q_indexAddrG Try.underlying33 tk37 (ev_yes rfl hc) ((.left (.of (psAt 2 rfl)))) (ev_yes rfl hc) (rows_get g1) rfl rfl) (fun _ => ⟨(0, 0)⟩) (fun ⟨b18_20, o18_20⟩ => ?_)
      refine aB_hp (by simp only [nO, nK, nL]; rfl) rfl ?_
      refine aB_s 21 rfl (by kernel_rfl) _ rfl rfl (fun hc => q_loadD (o := 0) tk37 (ev_yes rfl hc) (psAt 0 rfl) hc rfl) ?_
      refine aB_hp (by simp only [nO, nK, nL]; rfl) rfl ?_
      refine aB_E 22 rfl (by kernel_rfl) _ rfl rfl (fun hc => q_indexAddrG Try.underlying37 tk3 (ev_yes rfl hc) ((Ent.all (f := ShF fun z : Int => [.v (encI z)]) (Ent.right (.of (psAt 3 rfl))) g1)) rfl (rows_elt (i := 0) (by omega) (by omega)) (by omega) rfl) (fun _ => ⟨(0, 0)⟩) (fun ⟨b18_22, o18_22⟩ => ?_)
      refine aB_hp (by simp only [nO, nK, nL]; rfl) rfl ?_
      refine aB_s 23 rfl (by kernel_rfl) _ rfl rfl (fun hc => q_loadD (o := 0) tk3 (ev_yes rfl hc) (psAt 0 rfl) hc rfl) ?_
      refine aB_hp (by simp only [nO, nK, nL]; rfl) rfl ?_
      refine aB_s 24 rfl (by kernel_rfl) _ rfl rfl (fun hc => q_move rfl) ?_
      refine aB_hp (by simp only [nO, nK, nL]; rfl) rfl ?_
      refine aB_s 25 rfl (by kernel_rfl) _ rfl rfl (fun hc => q_move rfl) ?_
      refine aB_hp (by simp only [nO, nK, nL]; rfl) rfl ?_
      refine aB_E 26 rfl (by kernel_rfl) _ rfl rfl (fun hc => q_indexAddrG Try.underlying33 tk37 (ev_yes rfl hc) ((.left (.of (psAt 4 rfl)))) (ev_yes rfl hc) (rows_get g1) rfl rfl) (fun _ => ⟨(0, 0)⟩) (fun ⟨b18_26, o18_26⟩ => ?_)
      refine aB_hp (by simp only [nO, nK, nL]; rfl) rfl ?_
      refine aB_s 27 rfl (by kernel_rfl) _ rfl rfl (fun hc => q_loadD (o := 0) tk37 (ev_yes rfl hc) (psAt 0 rfl) hc rfl) ?_
      refine aB_hp (by simp only [nO, nK, nL]; rfl) rfl ?_
      refine aB_E 28 rfl (by kernel_rfl) _ rfl rfl (fun hc => q_indexAddrG Try.underlying37 tk3 (ev_yes rfl hc) ((Ent.all (f := ShF fun z : Int => [.v (encI z)]) (Ent.right (.of (psAt 5 rfl))) g1)) rfl (rows_elt (i := 1) (by omega) (by omega)) (by omega) rfl) (fun _ => ⟨(0, 0)⟩) (fun ⟨b18_28, o18_28⟩ => ?_)
      refine aB_hp (by simp only [nO, nK, nL]; rfl) rfl ?_
      refine aB_s 29 rfl (by kernel_rfl) _ rfl rfl (fun hc => q_loadD (o := 0) tk3 (ev_yes rfl hc) (psAt 0 rfl) hc rfl) ?_
      refine aB_hp (by simp only [nO, nK, nL]; rfl) rfl ?_
      refine aB_s 30 rfl (by kernel_rfl) _ rfl rfl (fun hc => q_move rfl) ?_
      refine aB_hp (by simp only [nO, nK, nL]; rfl) rfl ?_
      refine aB_s 31 rfl (by kernel_rfl) _ rfl rfl (fun hc => q_move rfl) ?_
      refine aB_hp (by simp only [nO, nK, nL]; rfl) rfl ?_
      refine aB_E 32 rfl (by kernel_rfl) _ rfl rfl (fun hc => q_indexAddrG Try.underlying33 tk37 (ev_yes rfl hc) ((.left (.of (psAt 6 rfl)))) (ev_yes rfl hc) (rows_get e1) rfl rfl) (fun _ => ⟨(0, 0)⟩) (fun ⟨b18_32, o18_32⟩ => ?_)
      refine aB_hp (by simp only [nO, nK, nL]; rfl) rfl ?_
      refine aB_s 33 rfl (by kernel_rfl) _ rfl rfl (fun hc => q_loadD (o := 0) tk37 (ev_yes rfl hc) (psAt 0 rfl) hc rfl) ?_
      refine aB_hp (by simp only [nO, nK, nL]; rfl) rfl ?_
      refine aB_E 34 rfl (by kernel_rfl) _ rfl rfl (fun hc => q_indexAddrG Try.underlying37 tk3 (ev_yes rfl hc) ((Ent.all (f := ShF fun z : Int => [.v (encI z)]) (Ent.right (.of (psAt 7 rfl))) e1)) rfl (rows_elt (i := 0) (by omega) (by omega)) (by omega) rfl) (fun _ => ⟨(0, 0)⟩) (fun ⟨b18_34, o18_34⟩ => ?_)
      refine aB_hp (by simp only [nO, nK, nL]; rfl) rfl ?_
      refine aB_s 35 rfl (by kernel_rfl) _ rfl rfl (fun hc => q_loadD (o := 0) tk3 (ev_yes rfl hc) (psAt 0 rfl) hc rfl) ?_
      refine aB_hp (by simp only [nO, nK, nL]; rfl) rfl ?_
      refine aB_s 36 rfl (by kernel_rfl) _ rfl rfl (fun hc => q_move rfl) ?_
      refine aB_hp (by simp only [nO, nK, nL]; rfl) rfl ?_
      refine aB_s 37 rfl (by kernel_rfl) _ rfl rfl (fun hc => q_move rfl) ?_
      refine aB_hp (by simp only [nO, nK, nL]; rfl) rfl ?_
      refine aB_E 38 rfl (by kernel_rfl) _ rfl rfl (fun hc => q_indexAddrG Try.underlying33 tk37 (ev_yes rfl hc) ((.left (.of (psAt 8 rfl)))) (ev_yes rfl hc) (rows_get e1) rfl rfl) (fun _ => ⟨(0, 0)⟩) (fun ⟨b18_38, o18_38⟩ => ?_)
      refine aB_hp (by simp only [nO, nK, nL]; rfl) rfl ?_
      refine aB_s 39 rfl (by kernel_rfl) _ rfl rfl (fun hc => q_loadD (o := 0) tk37 (ev_yes rfl hc) (psAt 0 rfl) hc rfl) ?_
      refine aB_hp (by simp only [nO, nK, nL]; rfl) rfl ?_
      refine aB_E 40 rfl (by kernel_rfl) _ rfl rfl (fun hc => q_indexAddrG Try.underlying37 tk3 (ev_yes rfl hc) ((Ent.all (f := ShF fun z : Int => [.v (encI z)]) (Ent.right (.of (psAt 9 rfl))) e1)) rfl (rows_elt (i := 1) (by omega) (by omega)) (by omega) rfl) (fun _ => ⟨(0, 0)⟩) (fun ⟨b18_40, o18_40⟩ => ?_)
      refine aB_hp (by simp only [nO, nK, nL]; rfl) rfl ?_
      refine aB_s 41 rfl (by kernel_rfl) _ rfl rfl (fun hc => q_loadD (o := 0) tk3 (ev_yes rfl hc) (psAt 0 rfl) hc rfl) ?_
      refine aB_hp (by simp only [nO, nK, nL]; rfl) rfl ?_
      refine aB_s 42 rfl (by kernel_rfl) _ rfl rfl (fun hc => q_call (by kernel_rfl) (evs_cons (ev_yes rfl hc) (evs_cons (ev_yes rfl hc) (evs_cons (ev_yes rfl hc) (evs_cons (ev_yes rfl hc) (evs_cons (ev_yes rfl hc) (evs_cons (ev_yes rfl hc) (evs_cons (ev_yes rfl hc) rfl))))))) (fun w S fp hst => (con_needs x _ _ _ _).quiet1 (psAt 11 rfl) hst)) ?_
      refine aB_hp (by simp only [nO, nK, nL]; rfl) rfl ?_
      refine aB_s 43 rfl (by kernel_rfl) _ rfl rfl (fun hc => q_not (ev_yes rfl hc)) ?_
      refine aB_hp (by simp only [nO, nK, nL]; rfl) rfl ?_
      refine aB_s 44 rfl (by kernel_rfl) true rfl rfl (fun _ => q_or rfl rfl (fun h => gf rfl h)) ?_
      refine aB_hp (by simp only [nO, nK, nL]; rfl) rfl ?_
      refine aB_nil (by kernel_rfl) ?_
      refine thn_n ?_
      refine awp_cond _ rfl (fun h6 => ?_) (fun h6 => ?_)
      ·skip
       have hcd : (wq x).cand W m k = false := by rw [cand_eq hlm hlk (b := needsF x (elt (elt aw.l (m : Int)).l 0) (elt (elt aw.l (m : Int)).l 1) (elt (elt aw.l (k : Int)).l 0) (elt (elt aw.l (k : Int)).l 1)) (by rw [g2, e2]; rfl)]; exact congrArg (! ·) h6
       refine awp_exit (thn_e (blk_hit (thn_n (awp_region (aL_s true rfl rfl (fun _ => q_move rfl) ?_)))))
       refine aL_s true rfl rfl (fun _ => q_addi rfl rfl (by omega)) ?_
       refine aL_s true rfl rfl (fun _ => q_assign rfl) (aL_nil (thn_n ?_))
       refine ⟨[1, 2, 3, 9, 10, 12, 13, 14, 15], [3, 2, 1, 0], [0, 1], rfl, ?_⟩
       refine ⟨(k + 1, nk), ⟨⟨by dsimp only; omega, ?_⟩, rfl⟩, by dsimp only; omega⟩
       dsimp only; rw [hst]; unfold WP.step; rw [hcd]; exact hnk
      ·skip
       have hcd : (wq x).cand W m k = true := by rw [cand_eq hlm hlk (b := needsF x (elt (elt aw.l (m : Int)).l 0) (elt (elt aw.l (m : Int)).l 1) (elt (elt aw.l (k : Int)).l 0) (elt (elt aw.l (k : Int)).l 1)) (by rw [g2, e2]; rfl)]; exact congrArg (! ·) h6
       obtain ⟨om, hom2⟩ : ∃ om, elt outs2 (m : Int) = om := ⟨_, rfl⟩
       obtain ⟨tk, htk⟩ : ∃ tk, elt aw.l (k : Int) = tk := ⟨_, rfl⟩
       obtain ⟨nkk, hnq⟩ : ∃ nkk, elt nk (k : Int) = nkk := ⟨_, rfl⟩
       rw [hom2] at hom hlm
       rw [htk] at e1 e2 e3 e4
       rw [hnq] at hnkk hwk
       have hslm := hsl m hm'
       rw [hom2] at hslm
       have hob : om.l.length ≤ 24 := by rw [hlm]; exact hWb m
       have hom3 : om ∈ outs2 := by rw [← hom2]; exact List.mem_of_getElem? (elt_nat (by omega))
       have hnm3 : nkk ∈ nk := by rw [← hnq]; exact List.mem_of_getElem? (elt_nat (by omega))
       have hom0 : om.l ≠ [] := fun h0 => by
         have h1 := (WP.cand_iff.1 hcd).1
         rw [h0] at hlm; exact h1 (List.length_eq_zero_iff.1 hlm.symm)
       refine awp_skip (thn_n (awp_seq ?_))
       refine awp_fact (ShF (fun t : Sl Int => [.v t.val]) om) (fun w S hps => ((hps (AllF PairT outs2) (by simp)) om hom3).1) ?_
       refine awp_drawnC [5, 11] [] [] (by kernel_rfl) ?_
       show aC _ _ _ _ _ _ _ 13 #[false, false, false, false, false, false, false, false, false, false, false, false, false] _
       refine aC_join (X := Option Addr × Nat) (fun q => ⟨[(1, true, x.objs.val), (2, true, x.keep.val), (3, true, x.choices.val), (9, true, aw.val), (10, true, .slice (some ⟨B, 0, none⟩) i i), (12, true, .bool false), (13, true, .slice (some ⟨B2, 0, none⟩) i i), (14, true, .int .i64 m), (15, true, .int .i64 k), (16, true, .slice q.1 (om.l.length + 1) q.2)], [AllF PairT nk, AllF PairT outs2, PairT aw, x.ok], [OwnS (.slice (some ⟨B, 0, none⟩) i i) 33 1 (outs2.map slv), OwnS (.slice (some ⟨B2, 0, none⟩) i i) 33 1 (nk.map slv), OwnS (.slice q.1 (om.l.length + 1) q.2) 37 1 (om.l.map (fun t : Sl Int => [D.v t.val]) ++ [[D.v tk.val]])]⟩) ?_ ?_
       ·skip
        refine aC_f 1 rfl (by kernel_rfl) true rfl rfl (fun _ => q_move rfl) ?_
        refine aC_f 2 rfl (by kernel_rfl) true rfl rfl (fun _ => q_move rfl) ?_
        refine aC_f 3 rfl (by kernel_rfl) true rfl rfl (fun _ => q_idxV m el84 rfl rfl rfl hm') ?_
        refine aC_q 4 rfl (by kernel_rfl) true rfl rfl (fun _ => q_loadO (v := .slice (some ⟨B, 0, none⟩) i i) (u := om.val) 0 m 0 tk33 rfl rfl hom rfl rfl) ?_
        refine aC_f 6 rfl (by kernel_rfl) true rfl rfl (fun _ => q_move rfl) ?_
        refine aC_f 7 rfl (by kernel_rfl) true rfl rfl (fun _ => q_move rfl) ?_
        refine aC_R1 8 rfl (by kernel_rfl) rfl rfl (q_indexAddrGR Try.underlying33 tk37 rfl ((.left (p := ShF (fun t : Sl Int => [.v t.val]) aw) (q := RowsI aw.l) (.of (psAt 11 rfl)))) rfl (rows_get (row := fun t : Sl Int => [D.v t.val]) e1) rfl rfl) (fun ⟨b19_8, o19_8⟩ => ?_)
        refine aC_f 9 rfl (by kernel_rfl) true rfl rfl (fun _ => q_loadDE (o := 0) tk37 rfl (.of (psAt 0 rfl)) rfl) ?_
        refine aC_arms 0 [10] (by kernel_rfl) (arms_cons ?_ (arms_cons ?_ arms_nil))
        ·skip
         refine aC_arm 0 rfl rfl (Eff.x ?_)
         refine id (w_lit0 el33 rfl (fun v19_0 => ?_))
         refine aC_st (by (try simp only [nO, nK, nL]); rfl) (by (try simp only [nM, nN]); rfl) (by (try simp only [keepH, nQ, nR, putB, place, Nat.reduceBEq, nA, if_true, if_false, reduceIte, nB, nC, nD, nE, nF, nG, nH, nI, Nat.reduceAdd, nJ, beq_self_eq_true, nK, nL, nM, nN]); rfl) ?_
         refine aC_arms 5 [10] (by kernel_rfl) (arms_cons ?_ (arms_cons ?_ arms_nil))
         ·skip
          refine aC_arm 5 rfl rfl (Eff.framed (q := false) [2] rfl rfl znil ?_)
          refine id (w_appendQ 0 el33 el33 rfl rfl rfl rfl (psAt 1 rfl) ((fun r hr => by obtain ⟨o, _, rfl⟩ := List.mem_map.1 hr; rfl)) (by simp; omega) (om.l.length) (by simp; try omega) (fun v19_5 c19_5 => ?_))
          refine fr_mk ?_
          refine aC_st (by (try simp only [nO, nK, nL]); rfl) (by (try simp only [nM, nN]); rfl) (by (try simp only [keepH, nQ, nR, putB, place, Nat.reduceBEq, nA, if_true, if_false, reduceIte, nB, nC, nD, nE, nF, nG, nH, nI, Nat.reduceAdd, nJ, beq_self_eq_true, nK, nL, nM, nN]); rfl) ?_
          refine aC_arms 10 [] (by kernel_rfl) (arms_cons ?_ arms_nil)
          refine aC_arm 10 rfl rfl (Eff.x ?_)
          refine id (w_lit (zs := [.slice none 0 0]) (l := [(0, .tmp 124)]) el33 (by kernel_rfl) (by decide) (by decide) (by decide) rfl rfl rfl (.more rfl (.v rfl .nil) .nil) rfl rfl (fun v19_10 => ?_))
          refine aC_st (by (try simp only [nO, nK, nL]); rfl) (by (try simp only [nM, nN]); rfl) (by (try simp only [keepH, nQ, nR, putB, place, Nat.reduceBEq, nA, if_true, if_false, reduceIte, nB, nC, nD, nE, nF, nG, nH, nI, Nat.reduceAdd, nJ, beq_self_eq_true, nK, nL, nM, nN]); rfl) ?_
          refine aC_arms 11 [] (by kernel_rfl) (arms_cons ?_ arms_nil)
          refine aC_arm 11 rfl rfl (Eff.framed (q := false) [2, 3] rfl rfl znil ?_)
          refine id (w_append 0 el33 rfl rfl rfl rfl (w_srcO 1 el33 rfl (by simp)) (by first | assumption | simp) (by simp; omega) (om.l.length + 1) (by simp) (fun v19_11 c19_11 => ?_))
          refine fr_mk ?_
          refine aC_st (by (try simp only [nO, nK, nL]); rfl) (by (try simp only [nM, nN]); rfl) (by (try simp only [keepH, nQ, nR, putB, place, Nat.reduceBEq, nA, if_true, if_false, reduceIte, nB, nC, nD, nE, nF, nG, nH, nI, Nat.reduceAdd, nJ, beq_self_eq_true, nK, nL, nM, nN]); rfl) ?_
          refine aC_f 12 rfl (by kernel_rfl) true rfl rfl (fun _ => q_assign rfl) ?_
          refine aC_nil (by kernel_rfl) ?_
          exact ⟨rfl, [1, 2, 3, 9, 10, 12, 13, 14, 15, 16], [3, 2, 1, 0], [0, 1, 2], (v19_11, c19_11), rfl, rfl⟩
         ·skip
          refine aC_arm 10 rfl rfl (Eff.x ?_)
          refine id (w_lit (zs := [.slice none 0 0]) (l := [(0, .tmp 124)]) el33 (by kernel_rfl) (by decide) (by decide) (by decide) rfl rfl rfl (.more rfl (.v rfl .nil) .nil) rfl rfl (fun v19_10 => ?_))
          refine aC_st (by (try simp only [nO, nK, nL]); rfl) (by (try simp only [nM, nN]); rfl) (by (try simp only [keepH, nQ, nR, putB, place, Nat.reduceBEq, nA, if_true, if_false, reduceIte, nB, nC, nD, nE, nF, nG, nH, nI, Nat.reduceAdd, nJ, beq_self_eq_true, nK, nL, nM, nN]); rfl) ?_
          refine aC_arms 5 [] (by kernel_rfl) (arms_cons ?_ arms_nil)
          refine aC_arm 5 rfl rfl (Eff.framed (q := false) [2] rfl rfl znil ?_)
          refine id (w_appendQ 0 el33 el33 rfl rfl rfl rfl (psAt 1 rfl) ((fun r hr => by obtain ⟨o, _, rfl⟩ := List.mem_map.1 hr; rfl)) (by simp; omega) (om.l.length) (by simp; try omega) (fun v19_5 c19_5 => ?_))
          refine fr_mk ?_
          refine aC_st (by (try simp only [nO, nK, nL]); rfl) (by (try simp only [nM, nN]); rfl) (by (try simp only [keepH, nQ, nR, putB, place, Nat.reduceBEq, nA, if_true, if_false, reduceIte, nB, nC, nD, nE, nF, nG, nH, nI, Nat.reduceAdd, nJ, beq_self_eq_true, nK, nL, nM, nN]); rfl) ?_
          refine aC_arms 11 [] (by kernel_rfl) (arms_cons ?_ arms_nil)
          refine aC_arm 11 rfl rfl (Eff.framed (q := false) [2, 3] rfl rfl znil ?_)
          refine id (w_append 0 el33 rfl rfl rfl rfl (w_srcO 1 el33 rfl (by simp)) (by first | assumption | simp) (by simp; omega) (om.l.length + 1) (by simp) (fun v19_11 c19_11 => ?_))
          refine fr_mk ?_
          refine aC_st (by (try simp only [nO, nK, nL]); rfl) (by (try simp only [nM, nN]); rfl) (by (try simp only [keepH, nQ, nR, putB, place, Nat.reduceBEq, nA, if_true, if_false, reduceIte, nB, nC, nD, nE, nF, nG, nH, nI, Nat.reduceAdd, nJ, beq_self_eq_true, nK, nL, nM, nN]); rfl) ?_
          refine aC_f 12 rfl (by kernel_rfl) true rfl rfl (fun _ => q_assign rfl) ?_
          refine aC_nil (by kernel_rfl) ?_
          exact ⟨rfl, [1, 2, 3, 9, 10, 12, 13, 14, 15, 16], [3, 2, 1, 0], [0, 1, 2], (v19_11, c19_11), rfl, rfl⟩
        ·skip
         refine aC_arm 10 rfl rfl (Eff.x ?_)
         refine id (w_lit (zs := [.slice none 0 0]) (l := [(0, .tmp 124)]) el33 (by kernel_rfl) (by decide) (by decide) (by decide) rfl rfl rfl (.more rfl (.v rfl .nil) .nil) rfl rfl (fun v19_10 => ?_))
         refine aC_st (by (try simp only [nO, nK, nL]); rfl) (by (try simp only [nM, nN]); rfl) (by (try simp only [keepH, nQ, nR, putB, place, Nat.reduceBEq, nA, if_true, if_false, reduceIte, nB, nC, nD, nE, nF, nG, nH, nI, Nat.reduceAdd, nJ, beq_self_eq_true, nK, nL, nM, nN]); rfl) ?_
         refine aC_arms 0 [] (by kernel_rfl) (arms_cons ?_ arms_nil)
         refine aC_arm 0 rfl rfl (Eff.x ?_)
         refine id (w_lit0 el33 rfl (fun v19_0 => ?_))
         refine aC_st (by (try simp only [nO, nK, nL]); rfl) (by (try simp only [nM, nN]); rfl) (by (try simp only [keepH, nQ, nR, putB, place, Nat.reduceBEq, nA, if_true, if_false, reduceIte, nB, nC, nD, nE, nF, nG, nH, nI, Nat.reduceAdd, nJ, beq_self_eq_true, nK, nL, nM, nN]); rfl) ?_
         refine aC_arms 5 [] (by kernel_rfl) (arms_cons ?_ arms_nil)
         refine aC_arm 5 rfl rfl (Eff.framed (q := false) [3] rfl rfl znil ?_)
         refine id (w_appendQ 0 el33 el33 rfl rfl rfl rfl (psAt 1 rfl) ((fun r hr => by obtain ⟨o, _, rfl⟩ := List.mem_map.1 hr; rfl)) (by simp; omega) (om.l.length) (by simp; try omega) (fun v19_5 c19_5 => ?_))
         refine fr_mk ?_
         refine aC_st (by (try simp only [nO, nK, nL]); rfl) (by (try simp only [nM, nN]); rfl) (by (try simp only [keepH, nQ, nR, putB, place, Nat.reduceBEq, nA, if_true, if_false, reduceIte, nB, nC, nD, nE, nF, nG, nH, nI, Nat.reduceAdd, nJ, beq_self_eq_true, nK, nL, nM, nN]); rfl) ?_
         refine aC_arms 11 [] (by kernel_rfl) (arms_cons ?_ arms_nil)
         refine aC_arm 11 rfl rfl (Eff.framed (q := false) [3, 2] rfl rfl znil ?_)
         refine id (w_append 0 el33 rfl rfl rfl rfl (w_srcO 1 el33 rfl (by simp)) (by first | assumption | simp) (by simp; omega) (om.l.length + 1) (by simp) (fun v19_11 c19_11 => ?_))
         refine fr_mk ?_
         refine aC_st (by (try simp only [nO, nK, nL]); rfl) (by (try simp only [nM, nN]); rfl) (by (try simp only [keepH, nQ, nR, putB, place, Nat.reduceBEq, nA, if_true, if_false, reduceIte, nB, nC, nD, nE, nF, nG, nH, nI, Nat.reduceAdd, nJ, beq_self_eq_true, nK, nL, nM, nN]); rfl) ?_
         refine aC_f 12 rfl (by kernel_rfl) true rfl rfl (fun _ => q_assign rfl) ?_
         refine aC_nil (by kernel_rfl) ?_
         exact ⟨rfl, [1, 2, 3, 9, 10, 12, 13, 14, 15, 16], [3, 2, 1, 0], [0, 1, 3], (v19_11, c19_11), rfl, rfl⟩
       ·skip
        rintro ⟨ax, cx⟩
        refine thn_n (awp_seq ?_)
        obtain ⟨sx, hsx⟩ : ∃ sx : Sl (Sl Int), sx = ⟨ax, cx, om.l ++ [tk]⟩ := ⟨_, rfl⟩
        have hsl1 : om.l.length + 1 = sx.l.length := by rw [hsx, List.length_append]; rfl
        have hsv : sx.val = .slice ax sx.l.length cx := by rw [hsx]
        have hrows : om.l.map (fun t : Sl Int => [D.v t.val]) ++ [[D.v tk.val]] = sx.l.map (fun t : Sl Int => [D.v t.val]) := by rw [hsx, List.map_append]; rfl
        rw [hsl1, hrows, ← hsv]
        have hwx : wl sx = (elt W (m : Int) ++ [(k : Int)]).map (plN x) := by rw [hsx, List.map_append, ← hslm]; show (om.l ++ [tk]).map _ = _; rw [List.map_append]; show _ ++ [tk.l] = _; rw [e2]; rfl
        refine awp_share 2 rfl ?_
        refine awp_fact (PairT sx) (fun w S hps => ⟨?_, fun z hz => ?_⟩) ?_
        · have := hps (Sh sx.val (.sl (sx.l.map (fun t : Sl Int => [D.v t.val])))) (by simp)
          rw [hsx] at this ⊢; exact this
        · rw [hsx] at hz
          rcases List.mem_append.1 hz with hz | hz
          · exact ((hps (AllF PairT outs2) (by simp)) om hom3).2 z hz
          · rw [List.mem_singleton.1 hz]; exact (hps (PairT aw) (by simp)).2 _ e4
        refine awp_fact (PairT nkk) (fun w S hps => (hps (AllF PairT nk) (by simp)) nkk hnm3) ?_
        have hx2 : ∀ t ∈ sx.l, t.l.length = 2 := fun t ht => hp2 _ (WP.ok_snoc (hWok m) (by rw [hQN]; exact hk')) t.l (by rw [← hwx]; exact List.mem_map.2 ⟨t, ht, rfl⟩)
        have hy2 : ∀ t ∈ nkk.l, t.l.length = 2 := fun t ht => hp2 _ (WP.row_ind (Q := wq x) (W := W) (i := m) (fun _ l => (wq x).Ok l) (WP.next_len _ _ _) (WP.next_ind (Q := wq x) (W := W) (fun _ l => (wq x).Ok l) (fun _ z hz => by cases hz) (fun a b _ hb _ => WP.ok_snoc (hWok a) hb) m (by omega)) (fun b hb _ => WP.ok_snoc (hWok m) hb) k (by omega) k) t.l (by rw [← hwk]; exact List.mem_map.2 ⟨t, ht, rfl⟩)
        refine awp_region (aL_s true rfl rfl (fun _ => q_move rfl) (aL_s true rfl rfl (fun _ => q_move rfl) (aL_s true rfl rfl (fun _ => q_idxV k el84 rfl rfl rfl hk') (aL_s true rfl rfl (fun _ => q_loadO (v := .slice (some ⟨B2, 0, none⟩) i i) (u := nkk.val) 1 k 0 tk33 rfl rfl hnkk rfl rfl) (aL_s true rfl rfl (fun _ => q_lenS Try.underlying33 rfl) (aL_s true rfl rfl (fun _ => q_eql rfl rfl) (aL_s true rfl rfl (fun _ => q_move rfl) ?_)))))))
        refine aL_s _ rfl rfl (fun hc => q_move rfl) (aL_s _ rfl rfl (fun hc => q_lenS Try.underlying33 (ev_yes rfl hc)) (aL_s _ rfl rfl (fun hc => q_move rfl) (aL_s _ rfl rfl (fun hc => q_move rfl) (aL_s _ rfl rfl (fun hc => q_idxV k el84 (ev_yes rfl hc) (ev_yes rfl hc) rfl hk') (aL_s _ rfl rfl (fun hc => q_loadO (v := .slice (some ⟨B2, 0, none⟩) i i) (u := nkk.val) 1 k 0 tk33 (ev_yes rfl hc) rfl hnkk rfl rfl) (aL_s _ rfl rfl (fun hc => q_lenS Try.underlying33 (ev_yes rfl hc)) (aL_s _ rfl rfl (fun hc => q_lss (ev_yes rfl hc) (ev_yes rfl hc)) ?_)))))))
        refine aL_s true rfl rfl (fun _ => q_or rfl rfl (fun h => gf rfl h)) (aL_s true rfl rfl (fun _ => q_move rfl) (aL_s _ rfl rfl (fun hc => q_move rfl) (aL_s _ rfl rfl (fun hc => q_lenS Try.underlying33 (ev_yes rfl hc)) (aL_s _ rfl rfl (fun hc => q_move rfl) (aL_s _ rfl rfl (fun hc => q_move rfl) (aL_s _ rfl rfl (fun hc => q_idxV k el84 (ev_yes rfl hc) (ev_yes rfl hc) rfl hk') (aL_s _ rfl rfl (fun hc => q_loadO (v := .slice (some ⟨B2, 0, none⟩) i i) (u := nkk.val) 1 k 0 tk33 (ev_yes rfl hc) rfl hnkk rfl rfl) ?_)))))))
        refine aL_s _ rfl rfl (fun hc => q_lenS Try.underlying33 (ev_yes rfl hc)) (aL_s _ rfl rfl (fun hc => q_eql (ev_yes rfl hc) (ev_yes rfl hc)) (aL_s _ rfl rfl (fun hc => q_move (ev_yes rfl hc)) (aL_s _ rfl rfl (fun hc => q_move rfl) (aL_s _ rfl rfl (fun hc => q_move rfl) (aL_s _ rfl rfl (fun hc => q_move rfl) (aL_s _ rfl rfl (fun hc => q_idxV k el84 (ev_yes rfl hc) (ev_yes rfl hc) rfl hk') (aL_s _ rfl rfl (fun hc => q_loadO (v := .slice (some ⟨B2, 0, none⟩) i i) (u := nkk.val) 1 k 0 tk33 (ev_yes rfl hc) rfl hnkk rfl rfl) ?_)))))))
        refine aL_s _ rfl rfl (fun hc => q_call (by kernel_rfl) (evs_cons (ev_yes rfl hc) (evs_cons (ev_yes rfl hc) rfl)) (fun w S fp hst => (con_rless sx nkk (by have hc2 := hc; simp at hc2; omega) hx2 hy2).quiet2 (psAt 1 rfl) (psAt 0 rfl) hst)) ?_
        refine aL_s _ rfl rfl (fun hc => q_and (ev_yes rfl hc) rfl (fun h => gt hc h)) (aL_s true rfl rfl (fun _ => q_or rfl rfl (fun h => gf rfl h)) (aL_nil (thn_n ?_)))
        refine awp_cond _ rfl (fun h7 => ?_) (fun h7 => ?_)
        ·skip
         have hbt : (wq x).better (elt W (m : Int) ++ [(k : Int)]) (elt ((wq x).row W m ((wq x).next W m) k) (k : Int)) = true := by rw [← better_eq hwx hwk]; exact h7
         refine awp_fact (AllF PairT (nk.set k sx)) (fun w S hps y hy => ?_) ?_
         · rcases List.mem_or_eq_of_mem_set hy with hy | rfl
           · exact (hps (AllF PairT nk) (by simp)) y hy
           · exact hps (PairT y) (by simp)
         refine awp_region (aL_s true rfl rfl (fun _ => q_move rfl) (aL_s true rfl rfl (fun _ => q_move rfl) (aL_s true rfl rfl (fun _ => q_move rfl) (aL_s true rfl rfl (fun _ => q_idxV k el84 rfl rfl rfl hk') ?_))))
         refine aL_eff (q := false) rfl (e_storeO 1 k 0 tk33 rfl rfl rfl hnkk rfl (.v rfl .nil) rfl (by decide) ?_)
         refine aL_nil (blk_n (thn_n (awp_region (aL_s true rfl rfl (fun _ => q_move rfl) ?_))))
         refine aL_s true rfl rfl (fun _ => q_addi rfl rfl (by omega)) ?_
         refine aL_s true rfl rfl (fun _ => q_assign rfl) (aL_nil (thn_n ?_))
         refine ⟨[1, 2, 3, 9, 10, 12, 13, 14, 15], [7, 2, 1, 0], [0, 1], rfl, ?_⟩
         refine ⟨(k + 1, nk.set k sx), ⟨⟨by dsimp only; omega, ?_⟩, ?_⟩, by dsimp only; omega⟩
         · dsimp only; rw [hst]; unfold WP.step; rw [hcd, hbt]; exact rel_set hnk hwx
         · dsimp only; rw [List.map_set]; rfl
        ·skip
         have hbt : (wq x).better (elt W (m : Int) ++ [(k : Int)]) (elt ((wq x).row W m ((wq x).next W m) k) (k : Int)) = false := by rw [← better_eq hwx hwk]; exact h7
         refine awp_skip (blk_n (thn_n (awp_region (aL_s true rfl rfl (fun _ => q_move rfl) ?_))))
         refine aL_s true rfl rfl (fun _ => q_addi rfl rfl (by omega)) ?_
         refine aL_s true rfl rfl (fun _ => q_assign rfl) (aL_nil (thn_n ?_))
         refine ⟨[1, 2, 3, 9, 10, 12, 13, 14, 15], [3, 2, 1, 0], [0, 1], rfl, ?_⟩
         refine ⟨(k + 1, nk), ⟨⟨by dsimp only; omega, ?_⟩, rfl⟩, by dsimp only; omega⟩
         dsimp only; rw [hst]; unfold WP.step; rw [hcd, hbt]; exact hnk
     ·skip
      have hke : k = i := by simp at h5; omega
      subst hke
      refine awp_exit (thn_e (thn_e (blk_hit (blk_n (thn_n (awp_region (aL_s true rfl rfl (fun _ => q_move rfl) ?_)))))))
      refine aL_s true rfl rfl (fun _ => q_addi rfl rfl (by omega)) ?_
      refine aL_s true rfl rfl (fun _ => q_assign rfl) (aL_nil (thn_n ?_))
      refine ⟨[1, 2, 3, 9, 10, 12, 13, 14], [3, 2, 1, 0], [0, 1], rfl, ?_⟩
      refine ⟨(m + 1, nk), ⟨⟨by dsimp only; omega, ?_⟩, rfl⟩, by dsimp only; omega⟩
      dsimp only; rw [WP.next_succ, hQN]; exact hnk
    ·skip
     have hme : m = i := by simp at h4; omega
     subst hme
     refine awp_exit (thn_e (thn_e (blk_hit (thn_n (awp_seq ?_)))))
     obtain ⟨X, hX⟩ : ∃ X, (wq x).next W m = X := ⟨_, rfl⟩
     rw [hX] at hnx
     refine awp_region (aL_s true rfl rfl (fun _ => q_assign rfl) (aL_nil (thn_n (awp_block (awp_loopK [1, 2, 3, 9, 10, 12, 13, 17] [3, 2, 1, 0] [0, 1] (fun (p : Nat × List (Sl (Sl Int)) × Bool) st => (p.1 ≤ m ∧ p.2.1.map wl = (WP.merge X W p.1).map (List.map (plN x)) ∧ p.2.2 = WP.any X p.1) ∧ st = ⟨[(1, true, x.objs.val), (2, true, x.keep.val), (3, true, x.choices.val), (9, true, aw.val), (10, true, .slice v2_2 m m), (12, true, .bool p.2.2), (13, true, .slice v11_2 m m), (17, true, .int .i64 p.1)], [AllF PairT nx, AllF PairT p.2.1, PairT aw, x.ok], [OwnS (.slice v2_2 m m) 33 1 (p.2.1.map slv), OwnS (.slice v11_2 m m) 33 1 (nx.map slv)]⟩) (fun p => m - p.1) rfl (⟨(0, outs2, false), ⟨Nat.zero_le _, hrel2, rfl⟩, rfl⟩) ?_)))))
     rintro ⟨k, os, ag2⟩ st ⟨⟨hk, hos, hag2⟩, rfl⟩
     dsimp only at hk hos hag2
     have hosl : os.length = m := by have := congrArg List.length hos; rw [List.length_map, List.length_map, WP.merge_len, hWl] at this; exact this
     refine awp_seq (awp_seq (awp_region (aL_s true rfl rfl (fun _ => q_move rfl) (aL_s true rfl rfl (fun _ => q_move rfl) (aL_s true rfl rfl (fun _ => q_lenS Try.underlying33 rfl) (aL_s true rfl rfl (fun _ => q_lss rfl rfl) (aL_nil ?_)))))))
     refine thn_n ?_
     refine awp_cond _ rfl (fun h8 => ?_) (fun h8 => ?_)
     ·skip
      have hk' : k < m := by simp at h8; omega
      refine awp_formO 0 rfl (fun h0 => by have h0' : os.length = 0 := (by simpa using congrArg List.length h0); omega) (fun B cp hvb => ?_)
      obtain ⟨rfl, rfl⟩ : v2_2 = some ⟨B, 0, none⟩ ∧ m = cp := by simp at hvb; exact ⟨hvb.1, hvb.2.2⟩
      refine awp_formO 1 rfl (fun h0 => by have h0' : nx.length = 0 := (by simpa using congrArg List.length h0); omega) (fun B2 cp2 hvb2 => ?_)
      obtain ⟨rfl, rfl⟩ : v11_2 = some ⟨B2, 0, none⟩ ∧ m = cp2 := by simp at hvb2; exact ⟨hvb2.1, hvb2.2.2⟩
      obtain ⟨nkk, hnq⟩ : ∃ nkk, elt nx (k : Int) = nkk := ⟨_, rfl⟩
      have hok : (os.map slv)[k]? = some (slv (elt os (k : Int))) := by rw [List.getElem?_map, elt_nat (by omega)]; rfl
      have hnkk : (nx.map slv)[k]? = some (slv nkk) := by rw [List.getElem?_map, elt_nat (by omega), hnq]; rfl
      have hwk : wl nkk = (elt X (k : Int)).map (plN x) := by rw [← hnq]; exact mapRel_elt hnx (by rw [← hX, WP.next_len, hQN]; exact hk')
      have hlk := wl_len hwk
      have hnm3 : nkk ∈ nx := by rw [← hnq]; exact List.mem_of_getElem? (elt_nat (by omega))
      refine awp_skip (thn_n (awp_seq (awp_block (awp_seq (awp_region (aL_s true rfl rfl (fun _ => q_move rfl) (aL_s true rfl rfl (fun _ => q_move rfl) ?_)))))))
      refine aL_s true rfl rfl (fun _ => q_idxV k el84 rfl rfl rfl hk') (aL_s true rfl rfl (fun _ => q_loadO (v := .slice (some ⟨B2, 0, none⟩) m m) (u := nkk.val) 1 k 0 tk33 rfl rfl hnkk rfl rfl) (aL_s true rfl rfl (fun _ => q_lenS Try.underlying33 rfl) (aL_s true rfl rfl (fun _ => q_gtr rfl rfl) (aL_nil (thn_n ?_)))))
      refine awp_cond _ rfl (fun h9 => ?_) (fun h9 => ?_)
      ·skip
       have hne : (elt X (k : Int)).isEmpty = false := by cases hh : elt X (k : Int) with
         | nil => rw [hh] at hlk; simp [hlk] at h9
         | cons _ _ => rfl
       refine awp_seq ?_
       refine awp_fact (AllF PairT (os.set k nkk)) (fun w S hps y hy => ?_) ?_
       · rcases List.mem_or_eq_of_mem_set hy with hy | rfl
         · exact (hps (AllF PairT os) (by simp)) y hy
         · exact (hps (AllF PairT nx) (by simp)) y hnm3
       refine awp_region (aL_s true rfl rfl (fun _ => q_move rfl) (aL_s true rfl rfl (fun _ => q_move rfl) (aL_s true rfl rfl (fun _ => q_move rfl) (aL_s true rfl rfl (fun _ => q_move rfl) (aL_s true rfl rfl (fun _ => q_idxV k el84 rfl rfl rfl hk') (aL_s true rfl rfl (fun _ => q_loadO (v := .slice (some ⟨B2, 0, none⟩) m m) (u := nkk.val) 1 k 0 tk33 rfl rfl hnkk rfl rfl) (aL_s true rfl rfl (fun _ => q_idxV k el84 rfl rfl rfl hk') ?_)))))))
       refine aL_eff (q := false) rfl (e_storeO 0 k 0 tk33 rfl rfl rfl hok rfl (.v rfl .nil) rfl (by decide) ?_)
       refine aL_nil (thn_n (awp_region (aL_s true rfl rfl (fun _ => q_assign rfl) (aL_nil (blk_n (thn_n (awp_region ?_)))))))
       refine aL_s true rfl rfl (fun _ => q_move rfl) ?_
       refine aL_s true rfl rfl (fun _ => q_addi rfl rfl (by omega)) ?_
       refine aL_s true rfl rfl (fun _ => q_assign rfl) (aL_nil (thn_n ?_))
       refine ⟨[1, 2, 3, 9, 10, 12, 13, 17], [3, 4, 1, 0], [0, 1], rfl, ?_⟩
       refine ⟨(k + 1, os.set k nkk, true), ⟨⟨by dsimp only; omega, ?_, ?_⟩, ?_⟩, by dsimp only; omega⟩
       · dsimp only; rw [WP.merge_succ]; unfold WP.put; rw [hne]; exact rel_set hos hwk
       · dsimp only; rw [WP.any_succ, hne]; simp
       · dsimp only; rw [List.map_set]; rfl
      ·skip
       have hne : (elt X (k : Int)).isEmpty = true := by cases hh : elt X (k : Int) with
         | nil => rfl
         | cons _ _ => rw [hh] at hlk; simp [hlk] at h9
       refine awp_skip (blk_n (thn_n (awp_region (aL_s true rfl rfl (fun _ => q_move rfl) ?_))))
       refine aL_s true rfl rfl (fun _ => q_addi rfl rfl (by omega)) ?_
       refine aL_s true rfl rfl (fun _ => q_assign rfl) (aL_nil (thn_n ?_))
       refine ⟨[1, 2, 3, 9, 10, 12, 13, 17], [3, 2, 1, 0], [0, 1], rfl, ?_⟩
       refine ⟨(k + 1, os, ag2), ⟨⟨by dsimp only; omega, ?_, ?_⟩, rfl⟩, by dsimp only; omega⟩
       · dsimp only; rw [WP.merge_succ]; unfold WP.put; rw [hne]; exact hos
       · dsimp only; rw [WP.any_succ, hne, hag2]; simp
     ·skip
      have hke : k = m := by simp at h8; omega
      subst hke
      have hme := WP.merge_empt (X := X) (W := W) (fun z hz => by rw [← hX, ← hQN] at hz; exact WP.next_free z hz) k (by omega)
      refine awp_exit (thn_e (thn_e (blk_hit (blk_n (thn_n ?_)))))
      refine ⟨[1, 2, 3, 9, 10, 12], [2, 1, 0], [0], rfl, ?_⟩
      refine ⟨(os, WP.merge X W k, ag2), ⟨⟨⟨j + 1, ?_⟩, hos, fun ha => ?_⟩, rfl⟩, ?_⟩
      · show WP.merge X W k = (wq x).round ((wq x).iter j); rw [← hj]; unfold WP.round; rw [hQN, hX]
      · dsimp only at ha ⊢; rw [hag2] at ha; rw [WP.merge_none ha, hX]; exact ha
      · dsimp only; rw [hag]; cases hb : ag2 with
        | false => have := hme.1; simp; omega
        | true => have := hme.2 (by rw [← hag2, hb]); simp; omega
   ·skip
    have hag : ag = false := h3
    refine awp_exit (thn_e (thn_e (blk_hit (thn_n (awp_seq (awp_share 0 rfl ?_))))))
    refine awp_fact (WayT ⟨v2_2, i, outs2⟩) (fun w S hps => ⟨?_, hps (AllF PairT outs2) (by simp)⟩) ?_
    · have := hps (Sh (.slice v2_2 i i) (.sl (outs2.map slv))) (by simp)
      show RepD w S (.slice v2_2 outs2.length i) _
      rw [hol2]; exact this
    refine awp_region (aL_s true rfl rfl (fun _ => q_move rfl) (aL_s true rfl rfl (fun _ => q_assign rfl) (aL_nil (thn_n (awp_ret ?_)))))
    refine fin1 [4] [] rfl Try.results27 rfl ?_ (.inr rfl)
    refine ⟨rfl, ⟨v2_2, i, outs2⟩, j, ?_, ?_, ?_, rfl⟩
    · show _ = Value.slice v2_2 outs2.length i; rw [hol2]
    · rw [← hj]; exact hrel2
    · rw [← hj, hQN]; exact hfix hag
end Go.Proofs.Ytnbochlghdkfkaa
namespace Go.Proofs.Ytnbochlghdkfkaa
open Go.RowKit Go.Lp Go.Sy Go.Lv
open Go.Proofs.Try
attribute [local irreducible] aL aB awp aC fwp
def refRow (W : WT) (os : List GObject) (i n : Nat) : List Bool := (List.range n).map fun k => !(elt W ((cntF os i + k : Nat) : Int)).isEmpty
def refTab (W : WT) (os : List GObject) (n : Nat) : List (List Bool) := (List.range n).map fun i => refRow W os i (elt os (i : Int)).secs.l.length
theorem refRow_succ (W : WT) (os : List GObject) (i n : Nat) : refRow W os i (n + 1) = refRow W os i n ++ [!(elt W ((cntF os i + n : Nat) : Int)).isEmpty] := by simp [refRow, List.range_succ]
theorem refTab_succ (W : WT) (os : List GObject) (n : Nat) : refTab W os (n + 1) = refTab W os n ++ [refRow W os n (elt os (n : Int)).secs.l.length] := by simp [refTab, List.range_succ]
theorem refRow_len (W : WT) (os : List GObject) (i n : Nat) : (refRow W os i n).length = n := by simp [refRow]
/-- nothing is new any more -/
def WEnd (x : GLink) (j : Nat) : Prop := WP.any ((wq x).next ((wq x).iter j) (wq x).N) (wq x).N = false
set_option maxHeartbeats 1000000 in
theorem con_rlive (x : GLink) (hf : FewL x.objs.l) : Con Try.prog 13 [x.r.val, x.objs.val, x.keep.val, x.choices.val] [x.ok] [] fun r ps hp => hp = [] ∧ ∃ (t : Sl (Sl Bool)) (j : Nat), r = t.val ∧ tabL t = refTab ((wq x).iter j) x.objs.l x.objs.l.length ∧ WEnd x j ∧ ps = [TabF t] := by
  have hn4 := hf.n
  refine Con.enter Try.func13 rfl (by simp [Try.ntmps13]) ?_
  show awp _ _ _ _ ⟨[(0, true, _), (1, true, _), (2, true, _), (3, true, _)], _, _⟩
  refine awp_lenE (GLink.f_objs (.of (psAt 0 rfl))) (fun hlen => ?_)
  refine awp_seq (awp_region ?_)
  refine aL_eff (q := true) rfl (x_box rfl rfl rfl (fun b0_0 => ?_))
  refine aL_hp (by (try simp only [nM, nN]); rfl) ?_
  refine aL_s true rfl rfl (fun _ => q_assign rfl) (aL_nil (thn_n (awp_seq (awp_region (aL_s true rfl rfl (fun _ => q_assign rfl) (aL_nil (thn_n ?_)))))))
  refine awp_seq (awp_region (aL_s true rfl rfl (fun _ => q_load 0 tk25 rfl rfl rfl) (aL_s true rfl rfl (fun _ => q_move rfl) (aL_s true rfl rfl (fun _ => q_move rfl) (aL_s true rfl rfl (fun _ => q_move rfl) ?_)))))
  refine aL_eff (q := true) rfl (e_call [0] [] (by kernel_rfl) rfl rfl rfl rfl (con_ways x hf) ?_)
  rintro _ _ _ ⟨rfl, s, j, rfl, hs, hend, rfl⟩
  refine aL_st (by (try simp only [nM, nN]); rfl) (by (try simp only [putB, place, Nat.reduceBEq, nA, if_true, if_false, reduceIte, nB, nC, nD, nE, nF, nG, nH, nI, Nat.reduceAdd, nJ, beq_self_eq_true, nK, nL, nM, nN]); rfl) ?_
  refine aL_s true rfl rfl (fun _ => q_assign rfl) (aL_nil (thn_n (awp_seq (awp_region (aL_s true rfl rfl (fun _ => q_assign rfl) (aL_nil (thn_n ?_)))))))
  refine awp_seq (awp_seq (awp_region (aL_s true rfl rfl (fun _ => q_assign rfl) (aL_nil (thn_n (awp_block ?_))))))
  obtain ⟨W, hW⟩ : ∃ W, (wq x).iter j = W := ⟨_, rfl⟩
  have hWl : W.length = cntF x.objs.l x.objs.l.length := by rw [← hW, WP.iter_len]; rfl
  rw [hW] at hs
  have hsl : s.l.length = W.length := by simpa using congrArg List.length hs
  have hcn := cnt_le (fun o ho => (hf.of o ho).1) _ (Nat.le_refl x.objs.l.length)
  refine awp_nil 54 1 ?_
  refine awp_fact (AllF (ShF fun b : Bool => [.v (.bool b)]) []) (fun w S hps y hy => by cases hy) ?_
  refine awp_loopK [1, 9, 10, 11, 12] [2, 1, 0] [1] (fun (p : Nat × List (Sl Bool) × Value) st => (p.1 ≤ x.objs.l.length ∧ p.2.1.map (·.l) = refTab W x.objs.l p.1) ∧ st = ⟨[(1, true, x.objs.val), (9, true, p.2.2), (10, true, s.val), (11, true, .int .i64 (cntF x.objs.l p.1 : Nat)), (12, true, .int .i64 p.1)], [AllF (ShF fun b : Bool => [.v (.bool b)]) p.2.1, WayT s, x.ok], [OwnS p.2.2 54 1 (p.2.1.map fun t : Sl Bool => [D.v t.val])]⟩) (fun p => x.objs.l.length - p.1) rfl (⟨(0, [], .slice none 0 0), ⟨Nat.zero_le _, rfl⟩, rfl⟩) ?_
  rintro ⟨i, rs, vo⟩ st ⟨⟨hi, hrs⟩, rfl⟩
  dsimp only at hi hrs
  have hrl : rs.length = i := by have := congrArg List.length hrs; simpa [refTab] using this
  refine awp_seq (awp_seq (awp_region (aL_s true rfl rfl (fun _ => q_move rfl) (aL_s true rfl rfl (fun _ => q_move rfl) (aL_s true rfl rfl (fun _ => q_lenS Try.underlying26 rfl) (aL_s true rfl rfl (fun _ => q_lss rfl rfl) (aL_nil ?_)))))))
  refine thn_n ?_
  refine awp_cond _ rfl (fun h1 => ?_) (fun h1 => ?_)
  ·skip
   have hi' : i < x.objs.l.length := by simp at h1; omega
   have ho := elt_nat hi'
   have hc1 := cnt_mono x.objs.l (i := i + 1) (j := x.objs.l.length) (by omega)
   have hc2 : cntF x.objs.l (i + 1) = cntF x.objs.l i + (elt x.objs.l (i : Int)).secs.l.length := rfl
   refine awp_skip (thn_n (awp_seq (awp_block (awp_seq (awp_region (aL_s true rfl rfl (fun _ => q_assign rfl) (aL_nil ?_)))))))
   refine thn_n (awp_seq (awp_seq (awp_region (aL_s true rfl rfl (fun _ => q_assign rfl) (aL_nil (thn_n (awp_block ?_)))))))
   refine awp_nil 4 1 ?_
   show awp _ _ _ _ ⟨_, _, [_, _]⟩
   refine awp_loopK [1, 9, 10, 11, 12, 13, 14] [2, 1, 0] [0, 1] (fun (p : Nat × Value) st => p.1 ≤ (elt x.objs.l (i : Int)).secs.l.length ∧ st = ⟨[(1, true, x.objs.val), (9, true, vo), (10, true, s.val), (11, true, .int .i64 ((cntF x.objs.l i + p.1 : Nat) : Int)), (12, true, .int .i64 i), (13, true, p.2), (14, true, .int .i64 p.1)], [AllF (ShF fun b : Bool => [.v (.bool b)]) rs, WayT s, x.ok], [OwnS vo 54 1 (rs.map fun t : Sl Bool => [D.v t.val]), OwnS p.2 4 1 (encR encB (refRow W x.objs.l i p.1))]⟩) (fun p => (elt x.objs.l (i : Int)).secs.l.length - p.1) rfl (⟨(0, .slice none 0 0), Nat.zero_le _, rfl⟩) ?_
   rintro ⟨k, vr⟩ st ⟨hk, rfl⟩
   dsimp only at hk
   have hrw := refRow_len W x.objs.l i k
   refine awp_seq (awp_seq (awp_region (aL_s true rfl rfl (fun _ => q_move rfl) (aL_s true rfl rfl (fun _ => q_move rfl) (aL_s true rfl rfl (fun _ => q_move rfl) ?_)))))
   refine aL_E true rfl rfl (fun _ => q_indexAddrG Try.underlying26 tk53 rfl ((GLink.f_objs (.of (psAt 2 rfl)))) rfl (rows_get ho) rfl rfl) (fun h => absurd h (by decide)) (fun ⟨b9_3, o9_3⟩ => ?_)
   refine aL_s true rfl rfl (fun _ => q_fieldAddr (off := 1) (by kernel_rfl) rfl) ?_
   refine aL_s true rfl rfl (fun _ => q_loadD (o := 1) tk42 rfl (psAt 0 rfl) rfl rfl) (aL_s true rfl rfl (fun _ => q_lenS Try.underlying42 rfl) (aL_s true rfl rfl (fun _ => q_lss rfl rfl) (aL_nil (thn_n ?_))))
   refine awp_cond _ rfl (fun h2 => ?_) (fun h2 => ?_)
   ·skip
    have hk' : k < (elt x.objs.l (i : Int)).secs.l.length := by simp at h2; omega
    have hsn := elt_nat (l := s.l) (i := cntF x.objs.l i + k) (by omega)
    have hwn : wl (elt s.l ((cntF x.objs.l i + k : Nat) : Int)) = (elt W ((cntF x.objs.l i + k : Nat) : Int)).map (plN x) := mapRel_elt hs (by omega)
    have hln := wl_len hwn
    refine awp_skip (thn_n (awp_seq (awp_block (awp_seq (awp_region (aL_s true rfl rfl (fun _ => q_move rfl) (aL_s true rfl rfl (fun _ => q_move rfl) ?_)))))))
    refine aL_s true rfl rfl (fun _ => q_move rfl) ?_
    refine aL_E true rfl rfl (fun _ => q_indexAddrG Try.underlying84 tk33 rfl ((.left (.of (psAt 2 rfl)))) rfl (rows_get hsn) rfl rfl) (fun h => absurd h (by decide)) (fun ⟨b11_3, o11_3⟩ => ?_)
    refine aL_s true rfl rfl (fun _ => q_loadD (o := 0) tk33 rfl (psAt 0 rfl) rfl rfl) (aL_s true rfl rfl (fun _ => q_lenS Try.underlying33 rfl) (aL_s true rfl rfl (fun _ => q_gtr rfl rfl) ?_))
    refine aL_eff (q := true) rfl (w_lit (zs := [.bool false]) (l := [(0, .tmp 42)]) el54 (by kernel_rfl) (by decide) (by decide) (by decide) rfl rfl rfl (.more rfl (.v rfl .nil) .nil) rfl rfl (fun v11_7 => ?_))
    refine aL_hp (by (try simp only [nM, nN]); rfl) ?_
    refine aL_eff rfl (w_append 1 el54 rfl rfl rfl rfl (w_srcO 2 el54 rfl (by simp)) (by first | assumption | simp) (by simp [encR]; omega) _ rfl (fun v11_8 c11_8 => ?_))
    refine aL_hp (by simp only [nK, nL]; rfl) ?_
    refine aL_s true rfl rfl (fun _ => q_assign rfl) (aL_nil (thn_n (awp_region (aL_s true rfl rfl (fun _ => q_move rfl) ?_))))
    refine aL_s true rfl rfl (fun _ => q_addi rfl rfl (by omega)) ?_
    refine aL_s true rfl rfl (fun _ => q_assign rfl) (aL_nil (blk_n (thn_n (awp_region (aL_s true rfl rfl (fun _ => q_move rfl) ?_)))))
    refine aL_s true rfl rfl (fun _ => q_addi rfl rfl (by omega)) ?_
    refine aL_s true rfl rfl (fun _ => q_assign rfl) (aL_nil (thn_n ?_))
    refine ⟨[1, 9, 10, 11, 12, 13, 14], [2, 1, 0], [0, 1], rfl, ?_⟩
    refine ⟨(k + 1, .slice v11_8 ((encR encB (refRow W x.objs.l i k)).length + 1) c11_8), ⟨by dsimp only; omega, ?_⟩, by dsimp only; omega⟩
    dsimp only
    rw [refRow_succ, show encR encB (refRow W x.objs.l i k ++ [!(elt W ((cntF x.objs.l i + k : Nat) : Int)).isEmpty]) = encR encB (refRow W x.objs.l i k) ++ [[D.v (.bool (decide (((elt s.l ((cntF x.objs.l i + k : Nat) : Int)).l.length : Int) > 0)))]] by rw [hln]; cases (elt W ((cntF x.objs.l i + k : Nat) : Int)) <;> simp [encR]]
    rfl
   ·skip
    have hkl : k = (elt x.objs.l (i : Int)).secs.l.length := by simp at h2; omega
    subst hkl
    refine awp_exit (thn_e (thn_e (blk_hit (thn_n ?_))))
    refine awp_formV 1 rfl (fun ar cr hvr => ?_)
    rw [encR_len] at hvr
    dsimp only at hvr
    subst hvr
    refine awp_share 1 rfl ?_
    refine awp_fact (AllF (ShF fun b : Bool => [.v (.bool b)]) (rs ++ [⟨ar, cr, refRow W x.objs.l i (elt x.objs.l (i : Int)).secs.l.length⟩])) (fun w S hps y hy => ?_) ?_
    · rcases List.mem_append.1 hy with hy | hy
      · exact (hps (AllF (ShF fun b : Bool => [.v (.bool b)]) rs) (by simp)) y hy
      · rw [List.mem_singleton.1 hy]; exact hps _ (by simp only [List.mem_cons]; exact .inl rfl)
    refine awp_region (aL_s true rfl rfl (fun _ => q_move rfl) (aL_s true rfl rfl (fun _ => q_move rfl) ?_))
    refine aL_eff (q := true) rfl (w_lit (zs := [.slice none 0 0]) (l := [(0, .tmp 48)]) el27 (by kernel_rfl) (by decide) (by decide) (by decide) rfl rfl rfl (.more rfl (.v rfl .nil) .nil) rfl rfl (fun v13_2 => ?_))
    refine aL_hp (by (try simp only [nM, nN]); rfl) ?_
    refine aL_eff rfl (w_append 0 el27 rfl rfl rfl rfl (w_srcO 2 el27 rfl (by simp)) (by first | assumption | simp) (by simp; omega) _ rfl (fun v13_3 c13_3 => ?_))
    refine aL_hp (by simp only [nK, nL]; rfl) ?_
    refine aL_s true rfl rfl (fun _ => q_assign rfl) (aL_nil (blk_n (thn_n (awp_region (aL_s true rfl rfl (fun _ => q_move rfl) ?_)))))
    refine aL_s true rfl rfl (fun _ => q_addi rfl rfl (by omega)) ?_
    refine aL_s true rfl rfl (fun _ => q_assign rfl) (aL_nil (thn_n ?_))
    refine ⟨[1, 9, 10, 11, 12], [5, 1, 0], [0], rfl, ?_⟩
    refine ⟨(i + 1, rs ++ [⟨ar, cr, refRow W x.objs.l i (elt x.objs.l (i : Int)).secs.l.length⟩], .slice v13_3 ((rs.map fun t : Sl Bool => [D.v t.val]).length + 1) c13_3), ⟨⟨by dsimp only; omega, ?_⟩, ?_⟩, by dsimp only; omega⟩
    · dsimp only; rw [List.map_append, hrs, refTab_succ]; rfl
    · dsimp only; rw [List.map_append]; rfl
  ·skip
   have hil : i = x.objs.l.length := by simp at h1; omega
   subst hil
   refine awp_exit (thn_e (thn_e (blk_hit (thn_n (awp_seq ?_)))))
   refine awp_formV 0 rfl (fun ao co hvo => ?_)
   rw [List.length_map] at hvo
   dsimp only at hvo
   subst hvo
   refine awp_share 0 rfl ?_
   refine awp_fact (TabF ⟨ao, co, rs⟩) (fun w S hps => ⟨hps _ List.mem_cons_self, hps (AllF (ShF fun b : Bool => [.v (.bool b)]) rs) (by simp)⟩) ?_
   refine awp_region (aL_s true rfl rfl (fun _ => q_move rfl) (aL_s true rfl rfl (fun _ => q_assign rfl) (aL_nil (thn_n (awp_ret ?_)))))
   refine fin1 [4] [] rfl Try.results13 rfl ?_ (.inr rfl)
   exact ⟨rfl, ⟨ao, co, rs⟩, j, rfl, by rw [hW]; exact hrs, hend, rfl⟩
end Go.Proofs.Ytnbochlghdkfkaa
namespace Go.Proofs.Ytnbochlghdkfkaa
open Go.RowKit Go.Lp Go.Sy Go.Lv
open Go.Proofs.Try
attribute [local irreducible] aL aB awp aC fwp
/-- the way to a place, of the table of the ways -/
def WayAt (x : GLink) (j : Nat) (o s : Int) (t : Sl (Sl Int)) : Prop := (∃ i : Nat, i < (wq x).N ∧ plN x i = [o, s] ∧ wl t = (elt ((wq x).iter j) (i : Int)).map (plN x)) ∨ ((∀ i : Nat, i < (wq x).N → plN x i ≠ [o, s]) ∧ wl t = [])
set_option maxHeartbeats 1000000 in
theorem con_rway (x : GLink) (hf : FewL x.objs.l) (o s : Int) : Con Try.prog 10 [x.r.val, x.objs.val, x.keep.val, x.choices.val, .int .i64 o, .int .i64 s] [x.ok] [] fun r ps hp => hp = [] ∧ ∃ (t : Sl (Sl Int)) (j : Nat), r = t.val ∧ WayAt x j o s t ∧ WEnd x j ∧ ps = [PairT t] := by
  obtain ⟨N, hN⟩ : ∃ N, cntF x.objs.l x.objs.l.length = N := ⟨_, rfl⟩
  have hQN : (wq x).N = N := hN
  have hcn := cnt_le (fun o ho => (hf.of o ho).1) _ (Nat.le_refl x.objs.l.length)
  have hn4 := hf.n
  have hN24 : N ≤ 24 := by omega
  refine Con.enter Try.func10 rfl (by simp [Try.ntmps10]) ?_
  show awp _ _ _ _ ⟨[(0, true, _), (1, true, _), (2, true, _), (3, true, _), (4, true, _), (5, true, _)], _, _⟩
  refine awp_seq (awp_region ?_)
  refine aL_eff (q := true) rfl (x_box rfl rfl rfl (fun b0_0 => ?_))
  refine aL_hp (by (try simp only [nM, nN]); rfl) ?_
  refine aL_s true rfl rfl (fun _ => q_assign rfl) (aL_nil (thn_n (awp_seq (awp_region (aL_s true rfl rfl (fun _ => q_move rfl) ?_)))))
  refine aL_eff (q := true) rfl (e_call [0] [] (by kernel_rfl) rfl rfl rfl rfl (con_places x hf) ?_)
  rintro _ _ _ ⟨rfl, aw, rfl, haw, rfl⟩
  refine aL_st (by (try simp only [nM, nN]); rfl) (by (try simp only [putB, place, Nat.reduceBEq, nA, if_true, if_false, reduceIte, nB, nC, nD, nE, nF, nG, nH, nI, Nat.reduceAdd, nJ, beq_self_eq_true, nK, nL, nM, nN]); rfl) ?_
  refine aL_s true rfl rfl (fun _ => q_assign rfl) (aL_nil (thn_n (awp_seq (awp_region (aL_s true rfl rfl (fun _ => q_load 0 tk25 rfl rfl rfl) (aL_s true rfl rfl (fun _ => q_move rfl) (aL_s true rfl rfl (fun _ => q_move rfl) ?_)))))))
  refine aL_s true rfl rfl (fun _ => q_move rfl) ?_
  refine aL_eff (q := true) rfl (e_call [0] [] (by kernel_rfl) rfl rfl rfl rfl (con_ways x hf) ?_)
  rintro _ _ _ ⟨rfl, sw, j, rfl, hs, hend, rfl⟩
  refine aL_st (by (try simp only [nM, nN]); rfl) (by (try simp only [putB, place, Nat.reduceBEq, nA, if_true, if_false, reduceIte, nB, nC, nD, nE, nF, nG, nH, nI, Nat.reduceAdd, nJ, beq_self_eq_true, nK, nL, nM, nN]); rfl) ?_
  refine aL_s true rfl rfl (fun _ => q_assign rfl) (aL_nil (thn_n (awp_seq (awp_seq (awp_region (aL_s true rfl rfl (fun _ => q_assign rfl) (aL_nil ?_)))))))
  refine thn_n (awp_block ?_)
  have hawl : aw.l.length = N := by rw [← hN, ← placesN_len, ← haw, List.length_map]
  have hpl : ∀ i : Nat, i < N → aw.l[i]? = some (elt aw.l (i : Int)) ∧ (elt aw.l (i : Int)).l = plN x i ∧ (elt aw.l (i : Int)).l.length = 2 := fun i hi => by
    have h1 := elt_nat (l := aw.l) (i := i) (by omega)
    have h2 := congrArg (fun z => z[i]?) haw
    rw [List.getElem?_map, h1, elt_nat (l := placesN _ _) (i := i) (by rw [placesN_len, hN]; exact hi)] at h2
    have h3 : (elt aw.l (i : Int)).l = elt (placesN x.objs.l x.objs.l.length) (i : Int) := Option.some.inj h2
    refine ⟨h1, h3, ?_⟩
    rw [h3]; exact pl_two (List.mem_of_getElem? (elt_nat (l := placesN x.objs.l x.objs.l.length) (i := i) (by rw [placesN_len, hN]; exact hi)))
  have hp2 : ∀ t : List Int, t.length = 2 → t = [elt t 0, elt t 1] := fun t ht => by
    match t, ht with
    | [a, b], _ => rfl
  have hsl : sw.l.length = N := by have := congrArg List.length hs; rw [List.length_map, List.length_map, WP.iter_len, hQN] at this; exact this
  refine awp_loopK [4, 5, 13, 14, 15] [2, 1, 0] [] (fun (i : Nat) st => (i ≤ N ∧ ∀ k : Nat, k < i → plN x k ≠ [o, s]) ∧ st = ⟨[(4, true, .int .i64 o), (5, true, .int .i64 s), (13, true, aw.val), (14, true, sw.val), (15, true, .int .i64 i)], [WayT sw, PairT aw, x.ok], []⟩) (fun i => N - i) rfl (⟨0, ⟨Nat.zero_le _, fun k hk => by omega⟩, rfl⟩) ?_
  rintro i st ⟨⟨hi, hno⟩, rfl⟩
  refine awp_seq (awp_seq (awp_region (aL_s true rfl rfl (fun _ => q_move rfl) (aL_s true rfl rfl (fun _ => q_move rfl) (aL_s true rfl rfl (fun _ => q_lenS Try.underlying33 rfl) (aL_s true rfl rfl (fun _ => q_lss rfl rfl) (aL_nil ?_)))))))
  refine thn_n ?_
  refine awp_cond _ rfl (fun h1 => ?_) (fun h1 => ?_)
  ·skip
   have hi' : i < N := by simp at h1; omega
   obtain ⟨g1, g2, g3⟩ := hpl i hi'
   have gw := elt_nat (l := sw.l) (i := i) (by omega)
   have gr : wl (elt sw.l (i : Int)) = (elt ((wq x).iter j) (i : Int)).map (plN x) := mapRel_elt hs (by rw [WP.iter_len, hQN]; exact hi')
   refine awp_skip (thn_n (awp_seq (awp_block (awp_seq (awp_region (aL_s true rfl rfl (fun _ => q_move rfl) (aL_s true rfl rfl (fun _ => q_move rfl) ?_)))))))
   refine aL_E true rfl rfl (fun _ => q_indexAddrG Try.underlying33 tk37 rfl ((.left (.of (psAt 1 rfl)))) rfl (rows_get g1) rfl rfl) (fun h => absurd h (by decide)) (fun ⟨b6_2, o6_2⟩ => ?_)
   refine aL_s true rfl rfl (fun _ => q_loadD (o := 0) tk37 rfl (psAt 0 rfl) rfl rfl) ?_
   refine aL_E true rfl rfl (fun _ => q_indexAddrG Try.underlying37 tk3 rfl ((Ent.all (f := ShF fun z : Int => [.v (encI z)]) (Ent.right (.of (psAt 2 rfl))) g1)) rfl (rows_elt (i := 0) (by omega) (by omega)) (by omega) rfl) (fun h => absurd h (by decide)) (fun ⟨b6_4, o6_4⟩ => ?_)
   refine aL_s true rfl rfl (fun _ => q_loadD (o := 0) tk3 rfl (psAt 0 rfl) rfl rfl) (aL_s true rfl rfl (fun _ => q_move rfl) (aL_s true rfl rfl (fun _ => q_eql rfl rfl) (aL_s true rfl rfl (fun _ => q_move rfl) (aL_s _ rfl rfl (fun hc => q_move rfl) (aL_s _ rfl rfl (fun hc => q_move rfl) ?_)))))
   refine aL_E _ rfl rfl (fun hc => q_indexAddrG Try.underlying33 tk37 (ev_yes rfl hc) ((.left (.of (psAt 3 rfl)))) (ev_yes rfl hc) (rows_get g1) rfl rfl) (fun _ => ⟨(0, 0)⟩) (fun ⟨b6_11, o6_11⟩ => ?_)
   refine aL_s _ rfl rfl (fun hc => q_loadD (o := 0) tk37 (ev_yes rfl hc) (psAt 0 rfl) hc rfl) ?_
   refine aL_E _ rfl rfl (fun hc => q_indexAddrG Try.underlying37 tk3 (ev_yes rfl hc) ((Ent.all (f := ShF fun z : Int => [.v (encI z)]) (Ent.right (.of (psAt 4 rfl))) g1)) rfl (rows_elt (i := 1) (by omega) (by omega)) (by omega) rfl) (fun _ => ⟨(0, 0)⟩) (fun ⟨b6_13, o6_13⟩ => ?_)
   refine aL_s _ rfl rfl (fun hc => q_loadD (o := 0) tk3 (ev_yes rfl hc) (psAt 0 rfl) hc rfl) (aL_s _ rfl rfl (fun hc => q_move rfl) (aL_s _ rfl rfl (fun hc => q_eql (ev_yes rfl hc) (ev_yes rfl hc)) (aL_s true rfl rfl (fun _ => q_and rfl rfl (fun h => gt rfl h)) (aL_nil (thn_n ?_)))))
   refine awp_cond _ rfl (fun h2 => ?_) (fun h2 => ?_)
   ·skip
    refine awp_seq ?_
    refine awp_fact (PairT (elt sw.l (i : Int))) (fun w S hps => (hps (WayT sw) (by simp)).2 _ (List.mem_of_getElem? gw)) ?_
    refine awp_region (aL_s true rfl rfl (fun _ => q_move rfl) (aL_s true rfl rfl (fun _ => q_move rfl) ?_))
    refine aL_E true rfl rfl (fun _ => q_indexAddrG Try.underlying84 tk33 rfl ((.left (.of (psAt 5 rfl)))) rfl (rows_get gw) rfl rfl) (fun h => absurd h (by decide)) (fun ⟨b7_2, o7_2⟩ => ?_)
    refine aL_s true rfl rfl (fun _ => q_loadD (o := 0) tk33 rfl (psAt 0 rfl) rfl rfl) (aL_s true rfl rfl (fun _ => q_assign rfl) (aL_nil (thn_n (awp_ret (blk_r (thn_r (thn_r ?_)))))))
    refine blk_r (thn_r ?_)
    refine fin1 [7] [] rfl Try.results10 rfl ?_ (.inr rfl)
    refine ⟨rfl, elt sw.l (i : Int), j, rfl, .inl ⟨i, by omega, ?_, gr⟩, hend, rfl⟩
    rw [← g2, hp2 _ g3]; simp at h2; rw [h2.1, h2.2]
   ·skip
    refine awp_skip (blk_n (thn_n (awp_region (aL_s true rfl rfl (fun _ => q_move rfl) ?_))))
    refine aL_s true rfl rfl (fun _ => q_addi rfl rfl (by omega)) ?_
    refine aL_s true rfl rfl (fun _ => q_assign rfl) (aL_nil (thn_n ?_))
    refine ⟨[4, 5, 13, 14, 15], [2, 1, 0], [], rfl, ?_⟩
    refine ⟨i + 1, ⟨⟨by omega, fun k hk => ?_⟩, rfl⟩, by omega⟩
    by_cases hki : k = i
    · subst hki; intro he; rw [← g2] at he; rw [he] at h2; simp [elt] at h2
    · exact hno k (by omega)
  ·skip
   have hie : i = N := by simp at h1; omega
   subst hie
   refine awp_exit (thn_e (thn_e (blk_hit (thn_n (awp_seq ?_)))))
   refine awp_fact (PairT default) (fun w S _ => ⟨.e _ _ (Nat.zero_le _), fun z hz => by cases hz⟩) ?_
   refine awp_region (aL_s true rfl rfl (fun _ => q_assign rfl) (aL_nil (thn_n (awp_ret ?_))))
   refine fin1 [3] [] rfl Try.results10 rfl ?_ (.inr rfl)
   exact ⟨rfl, default, j, rfl, .inr ⟨fun k hk => hno k (by rw [hQN] at hk; exact hk), rfl⟩, hend, rfl⟩
end Go.Proofs.Ytnbochlghdkfkaa
namespace Go.Proofs.Ytnbochlghdkfkaa
open Go.RowKit Go.Lp Go.Sy Go.Lv
open Go.Proofs.Try
attribute [local irreducible] aL aB awp aC fwp
theorem elt_app_left {α : Type} [Inhabited α] {a b : List α} {i : Nat} (h : i < a.length) : elt (a ++ b) (i : Int) = elt a (i : Int) := by
  unfold elt; rw [List.getD_eq_getElem?_getD, List.getD_eq_getElem?_getD, Int.toNat_natCast, List.getElem?_append_left h]
theorem elt_app_right {α : Type} [Inhabited α] {a b : List α} {i : Nat} : elt (a ++ b) ((a.length + i : Nat) : Int) = elt b (i : Int) := by
  unfold elt; rw [List.getD_eq_getElem?_getD, List.getD_eq_getElem?_getD, Int.toNat_natCast, Int.toNat_natCast, List.getElem?_append_right (by omega), show a.length + i - a.length = i by omega]
/-- the place of a number -/
theorem place_of (os : List GObject) : ∀ (n z : Nat), z < cntF os n → ∃ o s : Nat, o < n ∧ s < (elt os (o : Int)).secs.l.length ∧ z = cntF os o + s ∧ elt (placesN os n) (z : Int) = [(o : Int), (s : Int)]
  | 0, z, h => by exact absurd h (Nat.not_lt_zero _)
  | n + 1, z, h => by
    have hc : cntF os (n + 1) = cntF os n + (elt os (n : Int)).secs.l.length := rfl
    rw [placesN_succ]
    by_cases hz : z < cntF os n
    · obtain ⟨o, s, h1, h2, h3, h4⟩ := place_of os n z hz
      exact ⟨o, s, by omega, h2, h3, by rw [elt_app_left (by rw [placesN_len]; exact hz)]; exact h4⟩
    · obtain ⟨s, rfl⟩ : ∃ s, z = cntF os n + s := ⟨z - cntF os n, by omega⟩
      refine ⟨n, s, by omega, by omega, rfl, ?_⟩
      have e := elt_app_right (a := placesN os n) (b := plRow n (elt os (n : Int)).secs.l.length) (i := s)
      rw [placesN_len] at e
      rw [e]
      have hs : s < (elt os (n : Int)).secs.l.length := by omega
      have e2 := elt_nat (l := plRow n (elt os (n : Int)).secs.l.length) (i := s) (by rw [plRow_len]; exact hs)
      rw [show (plRow n (elt os (n : Int)).secs.l.length)[s]? = some [(n : Int), (s : Int)] by unfold plRow; rw [List.getElem?_map, List.getElem?_range hs]; rfl] at e2
      exact (Option.some.inj e2).symm
/-- a section -/
abbrev Rng (os : List GObject) (o s : Int) : Prop := (0 ≤ o ∧ o < os.length) ∧ 0 ≤ s ∧ s < (elt os o).secs.l.length
theorem num_ex (x : GLink) {z : Int} (h0 : 0 ≤ z) (h1 : z < (cntF x.objs.l x.objs.l.length : Int)) : ∃ o s : Int, Rng x.objs.l o s ∧ z = numF x.objs.l o s ∧ plN x z = [o, s] := by
  obtain ⟨o, s, k1, k2, k3, k4⟩ := place_of x.objs.l x.objs.l.length z.toNat (by omega)
  rw [Int.toNat_of_nonneg h0] at k4
  refine ⟨o, s, ⟨⟨by omega, by omega⟩, by omega, by omega⟩, ?_, k4⟩
  unfold numF; rw [Int.toNat_natCast]; omega
theorem num_rng {os : List GObject} {o s : Int} (h : Rng os o s) : 0 ≤ numF os o s ∧ numF os o s < (cntF os os.length : Int) := by
  obtain ⟨ho, hs⟩ := h
  have h1 : cntF os (o.toNat + 1) ≤ cntF os os.length := cnt_mono os (by omega)
  have h2 : cntF os (o.toNat + 1) = cntF os o.toNat + (elt os ((o.toNat : Nat) : Int)).secs.l.length := rfl
  rw [Int.toNat_of_nonneg ho.1] at h2
  unfold numF; omega
theorem pl_num (x : GLink) {o s : Int} (h : Rng x.objs.l o s) : plN x (numF x.objs.l o s) = [o, s] := by
  have hr := num_rng h
  obtain ⟨o', s', h1, h2, h3⟩ := num_ex x hr.1 hr.2
  obtain ⟨rfl, rfl⟩ := num_inj h h1 h2
  exact h3
theorem num_less {os : List GObject} {o s o' s' : Int} (h : Rng os o s) (h' : Rng os o' s') : numF os o s < numF os o' s' ↔ o < o' ∨ (o = o' ∧ s < s') := by
  have key : ∀ {a b o s : Int}, Rng os a b → Rng os o s → a < o → numF os a b < numF os o s := by
    intro a b o s ⟨ha, hb⟩ ⟨_, hs⟩ hao
    have h1 : cntF os (a.toNat + 1) ≤ cntF os o.toNat := cnt_mono os (by omega)
    have h2 : cntF os (a.toNat + 1) = cntF os a.toNat + (elt os ((a.toNat : Nat) : Int)).secs.l.length := rfl
    rw [Int.toNat_of_nonneg ha.1] at h2
    unfold numF; omega
  rcases Int.lt_trichotomy o o' with h1 | rfl | h1
  · exact ⟨fun _ => .inl h1, fun _ => key h h' h1⟩
  · unfold numF; omega
  · have := key h' h h1; omega
section
variable {x : GLink}
theorem less_lx : ∀ (c y : List Int), (wq x).Ok c → (wq x).Ok y → c.length = y.length → (lessF (c.map (plN x)) (y.map (plN x)) = true ↔ lx c y)
  | [], [], _, _, _ => by simp [lessF, lx]
  | a :: c, b :: y, hc, hy, hl => by
    have ha := hc a List.mem_cons_self
    have hb := hy b List.mem_cons_self
    obtain ⟨o, s, h1, e1, p1⟩ := num_ex x ha.1 ha.2
    obtain ⟨o', s', h2, e2, p2⟩ := num_ex x hb.1 hb.2
    have ih := less_lx c y (fun z hz => hc z (List.mem_cons_of_mem _ hz)) (fun z hz => hy z (List.mem_cons_of_mem _ hz)) (by simpa using hl)
    rw [List.map_cons, List.map_cons, p1, p2]
    have hlt := num_less h1 h2
    have heq : numF x.objs.l o s = numF x.objs.l o' s' ↔ o = o' ∧ s = s' := ⟨fun h => num_inj h1 h2 h, fun ⟨h, h'⟩ => by rw [h, h']⟩
    rw [← e1, ← e2] at hlt heq
    show (if o ≠ o' then decide (o < o') else if s ≠ s' then decide (s < s') else lessF (c.map (plN x)) (y.map (plN x))) = true ↔ a < b ∨ (a = b ∧ lx c y)
    rw [hlt, heq]
    by_cases k1 : o = o'
    · rw [if_neg (by simpa using k1)]
      by_cases k2 : s = s'
      · rw [if_neg (by simpa using k2), ih]
        constructor
        · intro h; exact .inr ⟨⟨k1, k2⟩, h⟩
        · rintro (h | ⟨_, h⟩)
          · omega
          · exact h
      · rw [if_pos k2, decide_eq_true_eq]
        constructor
        · intro h; exact .inl (.inr ⟨k1, h⟩)
        · rintro (h | ⟨⟨_, h⟩, _⟩)
          · omega
          · exact (k2 h).elim
    · rw [if_pos k1, decide_eq_true_eq]
      constructor
      · intro h; exact .inl (.inl h)
      · rintro (h | ⟨⟨h, _⟩, _⟩)
        · omega
        · exact (k1 h).elim
  | [], _ :: _, _, _, h => by simp at h
  | _ :: _, [], _, _, h => by simp at h
theorem bet_wq (x : GLink) : (wq x).Bet := fun c y hc hy => by
  show (y.isEmpty || decide (c.length < y.length) || (decide (c.length = y.length) && lessF (c.map (plN x)) (y.map (plN x)))) = true ↔ _
  simp only [Bool.or_eq_true, Bool.and_eq_true, decide_eq_true_eq, List.isEmpty_iff]
  unfold SL
  rw [or_assoc]
  refine or_congr Iff.rfl (or_congr Iff.rfl ?_)
  constructor
  · rintro ⟨h1, h2⟩; exact ⟨h1, (less_lx c y hc hy h1).1 h2⟩
  · rintro ⟨h1, h2⟩; exact ⟨h1, (less_lx c y hc hy h1).2 h2⟩
variable {ad : Option Addr} {cap : Nat}
abbrev outT (x : GLink) (ad : Option Addr) (cap : Nat) : List (List Int) := nextF (cntF x.objs.l x.objs.l.length) (arcsF (lkF x ad cap x.objs.l.length) x.objs.l.length)
abbrev rootT (x : GLink) (ad : Option Addr) (cap : Nat) : List Int := uniqI (rootsF (lkF x ad cap x.objs.l.length) x.objs.l.length)
theorem srt : Srt (cntF x.objs.l x.objs.l.length) (outT x ad cap) (rootT x ad cap) where
  rs := (uniqI_spec _).1
  ok := outOk arcs_ok
  row u := by
    show (elt ((phase1 _ _).map uniqI) u).Pairwise (· < ·)
    unfold elt
    rw [List.getD_eq_getElem?_getD, List.getElem?_map]
    cases (phase1 (cntF x.objs.l x.objs.l.length) (arcsF (lkF x ad cap x.objs.l.length) x.objs.l.length))[u.toNat]? with
    | none => exact List.Pairwise.nil
    | some l => exact (uniqI_spec l).1
theorem rr_iff (v : Int) (hv : 0 ≤ v ∧ v < (cntF x.objs.l x.objs.l.length : Int)) : v ∈ rootT x ad cap ↔ (wq x).RR v := by
  obtain ⟨o, s, h1, e1, p1⟩ := num_ex x hv.1 hv.2
  rw [mem_uniqI, mem_roots]
  show _ ↔ rootF x (elt (plN x v) 0) (elt (plN x v) 1) = true
  rw [p1]
  show _ ↔ rootF x o s = true
  constructor
  · rintro ⟨a, b, h, e⟩
    obtain ⟨rfl, rfl⟩ := num_inj h1 (kept_range (PRch.root h).kept) (e1.symm.trans e)
    exact h
  · intro h; exact ⟨o, s, h, e1⟩
theorem ee_iff (u v : Int) (hu : 0 ≤ u ∧ u < (cntF x.objs.l x.objs.l.length : Int)) (hv : 0 ≤ v ∧ v < (cntF x.objs.l x.objs.l.length : Int)) : v ∈ elt (outT x ad cap) u ↔ (wq x).EE u v := by
  obtain ⟨o, s, h1, e1, p1⟩ := num_ex x hu.1 hu.2
  obtain ⟨o', s', h2, e2, p2⟩ := num_ex x hv.1 hv.2
  rw [mem_nextF arcs_ok hu]
  show _ ↔ needsF x (elt (plN x u) 0) (elt (plN x u) 1) (elt (plN x v) 0) (elt (plN x v) 1) = true
  rw [p1, p2]
  show _ ↔ needsF x o s o' s' = true
  constructor
  · rintro ⟨⟨f, t⟩, ha, k1, k2⟩
    dsimp only at k1 k2
    subst k1; subst k2
    obtain ⟨a, b, a', b', h, k1, k2⟩ := mem_arcs.1 ha
    have hk := needs_kept h
    obtain ⟨rfl, rfl⟩ := num_inj h1 (kept_range hk.1) (e1.symm.trans k1)
    obtain ⟨rfl, rfl⟩ := num_inj h2 (kept_range hk.2) (e2.symm.trans k2)
    exact h
  · intro h; exact ⟨⟨u, v⟩, mem_arcs.2 ⟨o, s, o', s', h, e1, e2⟩, rfl, rfl⟩
/-- a way of the reference leads to what is live -/
theorem way_rch {v : Int} {m : List Int} (h : WayTo (wq x).N (wq x).RR (wq x).EE v m) : ∃ o s, PRch x o s ∧ v = numF x.objs.l o s := by
  have h' : WayTo (cntF x.objs.l x.objs.l.length) (· ∈ rootT x none 0) (fun u v => v ∈ elt (outT x none 0) u) v m := h.congr (fun v hv => (rr_iff v hv).2) fun u v hu hv => (ee_iff u v hu hv).2
  refine (rch_iff (ad := none) (cap := 0)).1 ?_
  clear h
  induction h' with
  | root h1 h2 => exact .root h2 h1.1 h1.2
  | snoc _ _ h3 ih => exact .arc ih h3
theorem ref_dead {o s : Int} (h : ¬ PRch x o s) (hr : Rng x.objs.l o s) (j : Nat) : elt ((wq x).iter j) (numF x.objs.l o s) = [] := by
  refine Classical.byContradiction fun hne => ?_
  have hl := WP.iter_least (bet_wq x) j (num_rng hr) hne
  obtain ⟨a, b, h1, h2⟩ := way_rch hl.1
  obtain ⟨rfl, rfl⟩ := num_inj hr (kept_range h1.kept) h2
  exact h h1
/-- both searches find the same way -/
theorem ref_live {o s : Int} (h : PRch x o s) {j : Nat} (he : WEnd x j) : elt ((wq x).iter j) (numF x.objs.l o s) = wayN (lkF x ad cap x.objs.l.length) (numF x.objs.l o s) ∧ elt ((wq x).iter j) (numF x.objs.l o s) ≠ [] := by
  have hr := kept_range h.kept
  have hS := srt (x := x) (ad := ad) (cap := cap)
  have hrch := (rch_iff (ad := ad) (cap := cap)).2 ⟨o, s, h, rfl⟩
  have hw := (mem_wave hS.nd hS.ok _).2 hrch
  have hL := bfs_least hS hw (Nat.le_refl _)
  have hL' : Least (wq x).N (wq x).RR (wq x).EE _ _ := hL.congr (fun v hv => rr_iff v hv) fun u v hu hv => ee_iff u v hu hv
  have hne := WP.iter_end (bet_wq x) he hL'.1
  refine ⟨?_, hne⟩
  have hL2 := WP.iter_least (bet_wq x) j (num_rng hr) hne
  rw [hL2.uniq hL']
  unfold wayN trackF
  rw [if_neg (Int.not_lt.2 ((search_nonneg hS.nd hS.ok (num_rng hr).1 (num_rng hr).2).2 hrch))]
def plP (p : GPlace) : List Int := [p.obj, p.sec]
theorem way_tell {o s : Int} {j : Nat} {t : Sl (Sl Int)} (ht : WayAt x j o s t) (he : WEnd x j) : wl t = (wayF (lkF x ad cap x.objs.l.length) o s).map plP := by
  by_cases h : PRch x o s
  · have hk := h.kept
    have hr := kept_range hk
    obtain ⟨e1, e2⟩ := ref_live (ad := ad) (cap := cap) h he
    have hf : elt (lkF x ad cap x.objs.l.length).first.l o + s = numF x.objs.l o s := lk_first hk
    rcases ht with ⟨i, h1, h2, h3⟩ | ⟨h1, _⟩
    · have hi : (i : Int) = numF x.objs.l o s := by
        obtain ⟨o', s', k1, k2, k3⟩ := num_ex x (z := i) (by omega) (by exact Int.ofNat_lt.2 h1)
        rw [h2] at k3
        simp only [List.cons.injEq, and_true] at k3
        rw [k2, k3.1, k3.2]
      rw [h3, hi, e1]
      unfold wayF
      rw [if_pos (show keptF (lkF x ad cap x.objs.l.length).objs.l (lkF x ad cap x.objs.l.length).keep.l o s = true from hk), hf, List.map_map]
      refine List.map_congr_left fun z hz => ?_
      have hS := srt (x := x) (ad := ad) (cap := cap)
      have hrch := (rch_iff (ad := ad) (cap := cap)).2 ⟨o, s, h, rfl⟩
      have hz' : Rch (cntF x.objs.l x.objs.l.length) (outT x ad cap) (rootT x ad cap) z := by
        unfold wayN trackF at hz
        rw [if_neg (Int.not_lt.2 ((search_nonneg hS.nd hS.ok (num_rng hr).1 (num_rng hr).2).2 hrch)), List.mem_reverse] at hz
        exact (chain_ok hS.nd hS.ok _ _ hrch (Nat.le_refl _)).2.2.1 z hz
      obtain ⟨a, b, g1, rfl⟩ := rch_iff.1 hz'
      have hg := numbers_get (ad := ad) (cap := cap) (p := ⟨a, b⟩) g1.kept
      show plN x (numF x.objs.l a b) = plP ((numbersF (lkF x ad cap x.objs.l.length) (keptsF (lkF x ad cap x.objs.l.length) x.objs.l.length) (numF x.objs.l a b)).getD default)
      rw [hg, pl_num x (kept_range g1.kept)]; rfl
    · have hlt := num_rng hr
      have hz : (((numF x.objs.l o s).toNat : Nat) : Int) = numF x.objs.l o s := Int.toNat_of_nonneg hlt.1
      refine (h1 (numF x.objs.l o s).toNat (by show _ < cntF x.objs.l x.objs.l.length; omega) ?_).elim
      rw [hz]; exact pl_num x hr
  · rw [way_dead h]
    rcases ht with ⟨i, h1, h2, h3⟩ | ⟨_, h2⟩
    · obtain ⟨o', s', k1, k2, k3⟩ := num_ex x (z := i) (by omega) (by exact Int.ofNat_lt.2 h1)
      rw [h2] at k3
      simp only [List.cons.injEq, and_true] at k3
      obtain ⟨rfl, rfl⟩ := k3
      rw [h3, k2, ref_dead h k1 j]; rfl
    · rw [h2]; rfl
theorem tab_tell {t u : Sl (Sl Bool)} {j : Nat} (ht : tabL t = liveF (lkF x ad cap x.objs.l.length)) (hu : tabL u = refTab ((wq x).iter j) x.objs.l x.objs.l.length) (he : WEnd x j) : tabL t = tabL u := by
  have f1 := fits_iff.1 (tab_fits ht)
  rw [hu]
  unfold refTab
  refine List.ext_getElem? fun i => ?_
  by_cases hi : i < x.objs.l.length
  · have e2 : (tabL t)[i]? = some (elt t.l (i : Int)).l := by unfold tabL; rw [List.getElem?_map, elt_nat (by rw [f1.1]; exact hi)]; rfl
    rw [e2, List.getElem?_map, List.getElem?_range hi]
    show some _ = some _
    congr 1
    have l1 := f1.2 i hi
    refine List.ext_getElem? fun k => ?_
    unfold refRow
    by_cases hk : k < (elt x.objs.l (i : Int)).secs.l.length
    · rw [elt_nat (l := (elt t.l (i : Int)).l) (by rw [l1]; exact hk), List.getElem?_map, List.getElem?_range hk]
      show some _ = some _
      congr 1
      rw [Bool.eq_iff_iff, tab_live ht hi hk]
      have hn : ((cntF x.objs.l i + k : Nat) : Int) = numF x.objs.l i k := by unfold numF; rw [Int.toNat_natCast]; omega
      show _ ↔ (!(elt ((wq x).iter j) ((cntF x.objs.l i + k : Nat) : Int)).isEmpty) = true
      rw [hn]
      constructor
      · intro h
        have := (ref_live (ad := none) (cap := 0) h he).2
        simpa using this
      · intro h
        refine Classical.byContradiction fun hd => ?_
        rw [ref_dead hd ⟨⟨by omega, by omega⟩, by omega, by omega⟩ j] at h
        cases h
    · rw [List.getElem?_eq_none (by rw [l1]; omega), List.getElem?_eq_none (by simp; omega)]
  · rw [List.getElem?_eq_none (by simp [tabL, f1.1]; omega), List.getElem?_eq_none (by simp; omega)]
end
end Go.Proofs.Ytnbochlghdkfkaa
