/- Parts of the proof, in build order. No condition. -/
import Derived.Test.YtgmiihmahaahiaaGreatDoorQa09
import Derived.Test.YtgmiihmahaahiaaGreatDoorQa11
import Derived.Test.YtgmiihmahaahiaaGreatDoorQa03
import Derived.Test.YtgmiihmahaahiaaGreatDoorProg
import Derived.Ground.NamesProg
import Derived.Shelf.Bits.Mul64
import Derived.Test.YtgmiihmahaahiaaGreatDoorQa07
import Derived.Test.YtgmiihmahaahiaaGreatDoorQa05
set_option linter.unusedSimpArgs false
set_option linter.unusedVariables false
set_option maxHeartbeats 1000000
set_option maxRecDepth 20000
namespace Go.Sy
open Go.RowKit Go.Lp
theorem qn_neq {P : Program} {n : Fr} {s : Sta} {d : Option Tmp} {ty : TypeId} {pos : String} {af : Array Edge} {gd : Option (Nat × Bool)} {x : Operand} {T t' E : TypeId} {ad : Option Addr} {k c : Nat} (hT : P.underlying T = some (.slice E)) (hx : ev s.env x = some (true, .slice ad k c)) : Quiet P n ⟨d, .binOp .neq T x (.const (.slice none 0 0)) t', ty, pos, af, gd⟩ s (.bool (!ad.isNone)) :=
 .run2 (vy := .slice none 0 0) hx rfl fun ρ w h1 h2 => by
   unfold execOp; dsimp only; rw [h1, h2]
   simp only [eqGuard_at_slice, binOp, Sem.run_bind, Sem.run_pure, run_equal_slice_nil w T E ad k c hT, Result.andThen_ok]
end Go.Sy
namespace Go.Proofs.YtgmiihmahaahiaaGreatDoor
open Go.RowKit Go.Lp Go.Sy
open Go.Proofs.Tryz
attribute [local irreducible] aL aB awp aC fwp
theorem con_has (o : GObject) (sec : Int) : Con Tryz.prog 187 [o.val, .int .i64 sec] [o.ok] [] (YB (0 ≤ sec ∧ sec < o.secs.l.length)) := by
 refine Con.enter Tryz.func187 rfl (by simp [Tryz.ntmps187]) ?_
 show awp _ _ _ _ ⟨[(0, true, _), (1, true, _)], _, _⟩
 refine awp_lenE (GObject.f_secs (.of (psAt 0 rfl))) (fun hlen => ?_)
 refine aSR ?_
 refine aL_eff (q := true) rfl (x_box rfl rfl rfl (fun b0_0 => ?_))
 refine aL_hp (by (try simp only [nM, nN]); rfl) ?_
 refine aA rfl (aNn (aSR (aM rfl ?_)))
 refine aU rfl (q_fieldAddr (off := 1) (by kernel_rfl) rfl) ?_
 refine aU rfl (q_load 0 tk50 rfl rfl rfl) (aU rfl (q_lenS Tryz.underlying50 rfl) ?_)
 refine aU rfl (q_call (by kernel_rfl) rfl (fun w S fp hst => (con_within _ _).quiet0 hst)) ?_
 refine aM rfl ?_
 refine aG rfl rfl (fun hc => q_fieldAddr (off := 1) (by kernel_rfl) rfl) ?_
 refine aG rfl rfl (fun hc => q_load 0 tk50 (ev_yes rfl hc) rfl rfl) (aG rfl rfl (fun hc => q_move rfl) ?_)
 refine aL_E _ rfl rfl (fun hc => q_indexAddrG Tryz.underlying50 tk85 (ev_yes rfl hc) ((GObject.f_secs (.of (psAt 0 rfl)))) (ev_yes rfl hc) (rows_elt (i := sec) (by simp at hc; omega) (by simp at hc; omega)) (by simp at hc; omega) rfl) (fun _ => ⟨(0, 0)⟩) (fun ⟨b1_9, o1_9⟩ => ?_)
 refine aG rfl rfl (fun hc => q_fieldAddr (off := 1) (by kernel_rfl) (ev_yes rfl hc)) ?_
 refine aG rfl rfl (fun hc => q_loadD (o := 1) tk3 (ev_yes rfl hc) (psAt 0 rfl) hc rfl) (aG rfl rfl (fun hc => q_geq (ev_yes rfl hc) rfl) (aU rfl (q_and rfl rfl (fun h => gt rfl h)) (aM rfl ?_)))
 refine aG rfl rfl (fun hc => q_fieldAddr (off := 1) (by kernel_rfl) rfl) ?_
 refine aG rfl rfl (fun hc => q_load 0 tk50 (ev_yes rfl hc) rfl rfl) (aG rfl rfl (fun hc => q_move rfl) ?_)
 refine aL_E _ rfl rfl (fun hc => q_indexAddrG Tryz.underlying50 tk85 (ev_yes rfl hc) ((GObject.f_secs (.of (psAt 1 rfl)))) (ev_yes rfl hc) (rows_elt (i := sec) (by simp at hc; omega) (by simp at hc; omega)) (by simp at hc; omega) rfl) (fun _ => ⟨(0, 0)⟩) (fun ⟨b1_18, o1_18⟩ => ?_)
 refine aG rfl rfl (fun hc => q_fieldAddr (off := 2) (by kernel_rfl) (ev_yes rfl hc)) ?_
 refine aG rfl rfl (fun hc => q_loadD (o := 2) tk3 (ev_yes rfl hc) (psAt 0 rfl) hc rfl) (aG rfl rfl (fun hc => q_geq (ev_yes rfl hc) rfl) (aU rfl (q_and rfl rfl (fun h => gt rfl h)) (aM rfl ?_)))
 refine aG rfl rfl (fun hc => q_fieldAddr (off := 1) (by kernel_rfl) rfl) ?_
 refine aG rfl rfl (fun hc => q_load 0 tk50 (ev_yes rfl hc) rfl rfl) (aG rfl rfl (fun hc => q_move rfl) ?_)
 refine aL_E _ rfl rfl (fun hc => q_indexAddrG Tryz.underlying50 tk85 (ev_yes rfl hc) ((GObject.f_secs (.of (psAt 2 rfl)))) (ev_yes rfl hc) (rows_elt (i := sec) (by simp at hc; omega) (by simp at hc; omega)) (by simp at hc; omega) rfl) (fun _ => ⟨(0, 0)⟩) (fun ⟨b1_27, o1_27⟩ => ?_)
 refine aG rfl rfl (fun hc => q_fieldAddr (off := 3) (by kernel_rfl) (ev_yes rfl hc)) ?_
 refine aG rfl rfl (fun hc => q_loadD (o := 3) tk3 (ev_yes rfl hc) (psAt 0 rfl) hc rfl) (aG rfl rfl (fun hc => q_geq (ev_yes rfl hc) rfl) (aU rfl (q_and rfl rfl (fun h => gt rfl h)) (aA rfl (aNn (awp_ret ?_)))))
 refine fin1 [] [] rfl Tryz.results187 rfl ?_ (.inr rfl)
 refine ⟨⟨rfl, rfl⟩, _, rfl, fun hb => ?_⟩
 simp at hb; omega
theorem con_opsW (k : Int) : Con Tryz.prog 141 [.int .i64 k] [] [] fun r ps hp => ps = [] ∧ hp = [] ∧ ∃ (ad : Option Addr) (m c : Nat), r = .slice ad m c ∧ (ad ≠ none → widthF k = 8) := by
 refine Con.enter Tryz.func141 rfl (by simp [Tryz.ntmps141]) ?_
 show awp _ _ _ _ ⟨[(0, true, _)], _, _⟩
 refine aSR (aA rfl (aNs (aSR (aM rfl (aNn (awp_block (aSR (aU rfl (q_eql rfl rfl) (aA rfl (aNn ?_))))))))))
 refine awp_cond _ rfl (fun h1 => ?_) (fun h1 => ?_)
 ·skip
  refine aSR ?_
  refine aL_eff (q := true) rfl (w_lit (zs := [.int .i64 0]) (l := [(0, .const (.int .i64 14)), (1, .const (.int .i64 19)), (2, .const (.int .i64 20)), (3, .const (.int .i64 21))]) el90 (by kernel_rfl) (by decide) (by decide) (by decide) rfl rfl rfl (.more rfl (.v rfl .nil) (.more rfl (.v rfl .nil) (.more rfl (.v rfl .nil) (.more rfl (.v rfl .nil) .nil)))) rfl rfl (fun v3_0 => ?_))
  refine aL_hp (by (try simp only [nM, nN]); rfl) ?_
  refine aA rfl (aNn (awp_ret (blk_r (thn_r ?_))))
  refine fin1 [] [] rfl Tryz.results141 rfl ?_ (.inr rfl)
  exact ⟨rfl, rfl, v3_0, _, _, rfl, fun _ => by rw [show k = 5 by simpa using h1]; rfl⟩
 ·skip
  refine aSR (aU rfl (q_eql rfl rfl) (aA rfl (aNn ?_)))
  refine awp_cond _ rfl (fun h2 => ?_) (fun h2 => ?_)
  ·skip
   refine aSR ?_
   refine aL_eff (q := true) rfl (w_lit (zs := [.int .i64 0]) (l := [(0, .const (.int .i64 22))]) el90 (by kernel_rfl) (by decide) (by decide) (by decide) rfl rfl rfl (.more rfl (.v rfl .nil) .nil) rfl rfl (fun v5_0 => ?_))
   refine aL_hp (by (try simp only [nM, nN]); rfl) ?_
   refine aA rfl (aNn (awp_ret (blk_r (thn_r ?_))))
   refine fin1 [] [] rfl Tryz.results141 rfl ?_ (.inr rfl)
   exact ⟨rfl, rfl, v5_0, _, _, rfl, fun _ => by rw [show k = 6 by simpa using h2]; rfl⟩
  ·skip
   refine aSR (aU rfl (q_eql rfl rfl) (aA rfl (aNn ?_)))
   refine awp_cond _ rfl (fun h3 => ?_) (fun h3 => ?_)
   ·skip
    refine aSR ?_
    refine aL_eff (q := true) rfl (w_lit (zs := [.int .i64 0]) (l := [(0, .const (.int .i64 24)), (1, .const (.int .i64 25))]) el90 (by kernel_rfl) (by decide) (by decide) (by decide) rfl rfl rfl (.more rfl (.v rfl .nil) (.more rfl (.v rfl .nil) .nil)) rfl rfl (fun v7_0 => ?_))
    refine aL_hp (by (try simp only [nM, nN]); rfl) ?_
    refine aA rfl (aNn (awp_ret (blk_r (thn_r ?_))))
    refine fin1 [] [] rfl Tryz.results141 rfl ?_ (.inr rfl)
    exact ⟨rfl, rfl, v7_0, _, _, rfl, fun _ => by rw [show k = 7 by simpa using h3]; rfl⟩
   ·skip
    refine aSR (aU rfl (q_eql rfl rfl) (aA rfl (aNn ?_)))
    refine awp_cond _ rfl (fun h4 => ?_) (fun h4 => ?_)
    ·skip
     refine aSR ?_
     refine aL_eff (q := true) rfl (w_lit (zs := [.int .i64 0]) (l := [(0, .const (.int .i64 3))]) el90 (by kernel_rfl) (by decide) (by decide) (by decide) rfl rfl rfl (.more rfl (.v rfl .nil) .nil) rfl rfl (fun v9_0 => ?_))
     refine aL_hp (by (try simp only [nM, nN]); rfl) ?_
     refine aA rfl (aNn (awp_ret (blk_r (thn_r ?_))))
     refine fin1 [] [] rfl Tryz.results141 rfl ?_ (.inr rfl)
     exact ⟨rfl, rfl, v9_0, _, _, rfl, fun _ => by rw [show k = 8 by simpa using h4]; rfl⟩
    ·skip
     refine aSR (aU rfl (q_eql rfl rfl) (aA rfl (aNn ?_)))
     refine awp_cond _ rfl (fun h5 => ?_) (fun h5 => ?_)
     ·skip
      refine aSR ?_
      refine aL_eff (q := true) rfl (w_lit (zs := [.int .i64 0]) (l := [(0, .const (.int .i64 4))]) el90 (by kernel_rfl) (by decide) (by decide) (by decide) rfl rfl rfl (.more rfl (.v rfl .nil) .nil) rfl rfl (fun v11_0 => ?_))
      refine aL_hp (by (try simp only [nM, nN]); rfl) ?_
      refine aA rfl (aNn (awp_ret (blk_r (thn_r ?_))))
      refine fin1 [] [] rfl Tryz.results141 rfl ?_ (.inr rfl)
      exact ⟨rfl, rfl, v11_0, _, _, rfl, fun _ => by rw [show k = 9 by simpa using h5]; rfl⟩
     ·skip
      refine aSR (aU rfl (q_eql rfl rfl) (aA rfl (aNn ?_)))
      refine awp_cond _ rfl (fun h6 => ?_) (fun h6 => ?_)
      ·skip
       refine aSR ?_
       refine aL_eff (q := true) rfl (w_lit (zs := [.int .i64 0]) (l := [(0, .const (.int .i64 13)), (1, .const (.int .i64 3))]) el90 (by kernel_rfl) (by decide) (by decide) (by decide) rfl rfl rfl (.more rfl (.v rfl .nil) (.more rfl (.v rfl .nil) .nil)) rfl rfl (fun v13_0 => ?_))
       refine aL_hp (by (try simp only [nM, nN]); rfl) ?_
       refine aA rfl (aNn (awp_ret (blk_r (thn_r ?_))))
       refine fin1 [] [] rfl Tryz.results141 rfl ?_ (.inr rfl)
       exact ⟨rfl, rfl, v13_0, _, _, rfl, fun _ => by rw [show k = 10 by simpa using h6]; rfl⟩
      ·skip
       refine awp_skip (blk_n (thn_n (aSR (aA rfl (aNn (awp_ret ?_))))))
       refine fin1 [] [] rfl Tryz.results141 rfl ?_ (.inr rfl)
       exact ⟨rfl, rfl, none, 0, 0, rfl, fun h => absurd rfl h⟩
theorem widthF_rng (k : Int) : 2 ≤ widthF k ∧ widthF k ≤ 8 := by unfold widthF; split <;> (try split) <;> decide
theorem con_form (o : GObject) (hb : ∀ s ∈ o.secs.l, s.bytes.size ≤ 1048576) (sec : Int) : Con Tryz.prog 82 [o.val, .int .i64 sec] [constAt, turnsAt, o.ok] [] fun r ps hp => ps = [] ∧ hp = [] ∧ ∃ t : ByteArray, r = .string t := by
 refine Con.enter Tryz.func82 rfl (by simp [Tryz.ntmps82]) ?_
 show awp _ _ _ _ ⟨[(0, true, _), (1, true, _)], _, _⟩
 refine awp_lenE (GObject.f_secs (.of (psAt 2 rfl))) (fun hlen => ?_)
 refine awp_lenE (GObject.f_rels (.of (psAt 2 rfl))) (fun hlen2 => ?_)
 refine aSR ?_
 refine aL_eff (q := true) rfl (x_box rfl rfl rfl (fun b0_0 => ?_))
 refine aL_hp (by (try simp only [nM, nN]); rfl) ?_
 refine aA rfl (aNs (aSR (aU rfl (q_load 0 tk61 rfl rfl rfl) (aM rfl ?_))))
 refine aL_callN (caps := []) [0] (false) (by kernel_rfl) true rfl rfl (fun _ => rfl) (fun hc => rfl) (fun hc => by rw [List.append_nil]; exact con_has o _) (fun c1 hc1 => ?_)
 refine aU rfl (q_not rfl) (aNn ?_)
 refine awp_cond _ rfl (fun h1 => ?_) (fun h1 => ?_)
 ·skip
  refine aSR (aA rfl (aNn (awp_ret (thn_r ?_))))
  refine fin1 [] [] rfl Tryz.results82 rfl ?_ (.inr rfl)
  exact ⟨rfl, rfl, _, rfl⟩
 ·skip
  have hsec : 0 ≤ sec ∧ sec < o.secs.l.length := hc1 rfl (by simpa using h1)
  have hsm := elt_some (l := o.secs.l) (i := sec) hsec.2 hsec.1
  have hbs := hb _ (List.mem_of_getElem? hsm)
  generalize hss : elt o.secs.l sec = s at hsm hbs
  refine awp_skip (thn_n (aSR ?_))
  refine aU rfl (q_fieldAddr (off := 1) (by kernel_rfl) rfl) ?_
  refine aU rfl (q_load 0 tk50 rfl rfl rfl) (aM rfl ?_)
  refine aL_E true rfl rfl (fun _ => q_indexAddrG Tryz.underlying50 tk85 rfl ((GObject.f_secs (.of (psAt 2 rfl)))) rfl (row := s.row) (hss ▸ rows_elt (i := sec) hsec.2 hsec.1) (by omega) rfl) (fun h => absurd h (by decide)) (fun ⟨b3_3, o3_3⟩ => ?_)
  refine aU rfl (q_loadD (o := 0) tk85 rfl (psAt 0 rfl) rfl rfl) ?_
  refine aL_eff (q := true) rfl (x_alloc (zs := [.string .empty, .int .i64 0, .int .i64 0, .int .i64 0, .string .empty, .bool false]) (by kernel_rfl) rfl (fun b3_5 => ?_))
  refine aL_hp (by (try simp only [nM, nN]); rfl) ?_
  refine aL_eff rfl (x_store 1 tk85 rfl rfl rfl rfl ?_)
  refine aL_hp (by (try simp only [nK, nL]); rfl) ?_
  refine aNn (aSR ?_)
  refine aU rfl (q_fieldAddr (off := 4) (by kernel_rfl) rfl) ?_
  refine aU rfl (q_load 1 tk9 rfl rfl rfl) ?_
  refine aL_eff (q := true) rfl (e_strBytesB Tryz.underlying9 Tryz.underlying280 Tryz.underlying5 rfl rfl (fun gb cb hcb => ?_))
  refine aL_hp (by (try simp only [nM, nN]); rfl) ?_
  refine aA rfl (aNs (aSR ?_))
  refine aU rfl (q_fieldAddr (off := 3) (by kernel_rfl) rfl) ?_
  refine aU rfl (q_load 0 tk52 rfl rfl rfl) (aU rfl (q_lenS Tryz.underlying52 rfl) (aM rfl (aNn (awp_block (awp_loopK [1, 2, 5, 6, 24, 25, 26] [2, 1, 0] [0, 1, 2] (fun (k : Nat) st => k ≤ o.rels.l.length ∧ st = ⟨[(1, true, .int .i64 sec), (2, true, .pointer (some ⟨b0_0, 0, none⟩)), (5, true, .pointer (some ⟨b3_5, 0, none⟩)), (6, true, .slice (some ⟨gb, 0, none⟩) s.bytes.size cb), (24, true, o.rels.val), (25, true, .int .i64 o.rels.l.length), (26, true, .int .i64 k)], [constAt, turnsAt, o.ok], [Box b0_0 61 o.vs, Box b3_5 85 s.vs, ByB gb cb]⟩) (fun k => o.rels.l.length - k) rfl (⟨0, Nat.zero_le _, rfl⟩) ?_)))))
  rintro k st ⟨hk, rfl⟩
  refine aSR (aU rfl (q_lss rfl rfl) (aNs ?_))
  refine awp_cond _ rfl (fun h2 => ?_) (fun h2 => ?_)
  ·skip
   have hk' : k < o.rels.l.length := by simpa using h2
   obtain ⟨r, hr⟩ : ∃ r, o.rels.l[k]? = some r := ⟨_, List.getElem?_eq_getElem hk'⟩
   have hw := widthF_rng r.kind
   refine awp_skip (thn_n (awp_seq (awp_block (aSR ?_))))
   refine aL_E true rfl rfl (fun _ => q_indexAddrG Tryz.underlying52 tk182 rfl ((GObject.f_rels (.of (psAt 2 rfl)))) rfl (rows_get hr) rfl rfl) (fun h => absurd h (by decide)) (fun ⟨b7_0, o7_0⟩ => ?_)
   refine aU rfl (q_loadD (o := 0) tk182 rfl (psAt 0 rfl) rfl rfl) ?_
   refine aL_eff (q := true) rfl (x_alloc (zs := [.int .i64 0, .int .i64 0, .int .i64 0, .int .i64 0, .int .i64 0]) (by kernel_rfl) rfl (fun b7_2 => ?_))
   refine aL_hp (by (try simp only [nM, nN]); rfl) ?_
   refine aL_eff rfl (x_store 3 tk182 rfl rfl rfl rfl ?_)
   refine aL_hp (by (try simp only [nK, nL]); rfl) ?_
   refine aNn (aSR ?_)
   refine aU rfl (q_fieldAddr (off := 2) (by kernel_rfl) rfl) ?_
   refine aU rfl (q_load 3 tk3 rfl rfl rfl) ?_
   refine aU rfl (q_call (by kernel_rfl) rfl (fun w S fp hst => (con_owidth _).quiet0 hst)) ?_
   refine aA rfl (aNs (aSR ?_))
   refine aU rfl (q_fieldAddr (off := 0) (by kernel_rfl) rfl) ?_
   refine aU rfl (q_load 3 tk3 rfl rfl rfl) (aM rfl (aU rfl (q_neq rfl rfl) (aM rfl ?_)))
   refine aG rfl rfl (fun hc => q_fieldAddr (off := 2) (by kernel_rfl) rfl) ?_
   refine aG rfl rfl (fun hc => q_load 3 tk3 (ev_yes rfl hc) rfl rfl) ?_
   refine aG rfl rfl (fun hc => q_call (by kernel_rfl) (evs_cons (ev_yes rfl hc) (evs_cons (ev_yes rfl rfl) rfl)) (fun w S fp hst => (con_within _ _).quiet0 hst)) ?_
   refine aG rfl rfl (fun hc => q_not (ev_yes rfl hc)) (aU rfl (q_or rfl rfl (fun h => gf rfl h)) (aM rfl ?_))
   refine aG rfl rfl (fun hc => q_fieldAddr (off := 1) (by kernel_rfl) rfl) ?_
   refine aG rfl rfl (fun hc => q_load 3 tk3 (ev_yes rfl hc) rfl rfl) (aG rfl rfl (fun hc => q_lss (ev_yes rfl hc) rfl) (aU rfl (q_or rfl rfl (fun h => gf rfl h)) (aM rfl ?_)))
   refine aG rfl rfl (fun hc => q_fieldAddr (off := 1) (by kernel_rfl) rfl) ?_
   refine aG rfl rfl (fun hc => q_load 3 tk3 (ev_yes rfl hc) rfl rfl) (aG rfl rfl (fun hc => q_move rfl) (aG rfl rfl (fun hc => q_lenS Tryz.underlying280 (ev_yes rfl hc)) (aG rfl rfl (fun hc => q_move rfl) ?_)))
   refine aG rfl rfl (fun hc => q_subi (ev_yes rfl hc) (ev_yes rfl hc) (by (first | omega | (simp at hc; omega)))) ?_
   refine aG rfl rfl (fun hc => q_gtr (ev_yes rfl hc) (ev_yes rfl hc)) (aU rfl (q_or rfl rfl (fun h => gf rfl h)) (aNn ?_))
   refine awp_cond _ rfl (fun h3 => ?_) (fun h3 => ?_)
   ·skip
    refine awp_exit (thn_e (blk_hit (thn_n (awp_region ?_))))
    refine aU rfl (q_addi rfl rfl (by omega)) ?_
    refine aM rfl (aNn ?_)
    refine ⟨[1, 2, 5, 6, 24, 25, 26], [2, 1, 0], [0, 1, 2], rfl, ?_⟩
    exact ⟨k + 1, ⟨by omega, rfl⟩, by omega⟩
   ·skip
    have hat : 0 ≤ r.at_ ∧ r.at_ + widthF r.kind ≤ s.bytes.size := by simp at h3; omega
    obtain ⟨a0, ha0⟩ := Int.eq_ofNat_of_zero_le hat.1
    obtain ⟨w0, hw0⟩ := Int.eq_ofNat_of_zero_le (show 0 ≤ widthF r.kind by omega)
    refine awp_skip (thn_n (aSR (aM rfl ?_)))
    refine aU rfl (q_fieldAddr (off := 1) (by kernel_rfl) rfl) ?_
    refine aU rfl (q_load 3 tk3 rfl rfl rfl) ?_
    refine aU rfl (q_fieldAddr (off := 1) (by kernel_rfl) rfl) ?_
    refine aU rfl (q_load 3 tk3 rfl rfl rfl) (aM rfl ?_)
    refine aU rfl (q_addi rfl rfl (by omega)) ?_
    refine aU rfl (q_sliceLHV a0 (a0 + w0) el280 rfl rfl rfl ha0 (by omega) (by omega) (by omega) hcb) ?_
    refine aA rfl (aNs (aSR ?_))
    refine aU rfl (q_fieldAddr (off := 2) (by kernel_rfl) rfl) ?_
    refine aU rfl (q_load 3 tk3 rfl rfl rfl) ?_
    refine aL_eff (q := true) rfl (e_call [] [] (by kernel_rfl) rfl rfl rfl rfl (con_opsW _) ?_)
    rintro _ _ _ ⟨rfl, rfl, oad, om, oc, rfl, how⟩
    refine aL_st (by (try simp only [nM, nN]); rfl) (by (try simp only [putB, place, Nat.reduceBEq, if_true, if_false, reduceIte, Nat.reduceAdd, nW]); rfl) ?_
    refine aU rfl (qn_neq Tryz.underlying90 rfl) (aNn ?_)
    refine awp_cond _ rfl (fun h4 => ?_) (fun h4 => ?_)
    ·skip
     have hw8 : w0 = 8 := by
       have := how (by intro e; subst e; simp at h4)
       omega
     refine awp_region (aM rfl ?_)
     refine aU rfl (q_sliceLV 4 (a0 + w0 - a0 - 4) (0 + a0 * 1 + 4 * 1) el280 rfl rfl rfl (by omega) (by omega) rfl rfl) ?_
     refine aA rfl (aNn (awp_region (aM rfl ?_)))
     refine aL_eff (q := false) rfl (e_clearB (cap := cb) 2 Tryz.underlying280 Tryz.zeroValue5 rfl rfl (by omega) (by omega) ?_)
     refine aL_nil (blk_n (thn_n (awp_region ?_)))
     refine aU rfl (q_addi rfl rfl (by omega)) ?_
     refine aM rfl (aNn ?_)
     refine ⟨[1, 2, 5, 6, 24, 25, 26], [2, 1, 0], [0, 1, 2], rfl, ?_⟩
     exact ⟨k + 1, ⟨by omega, rfl⟩, by omega⟩
    ·skip
     refine awp_skip (thn_n (awp_region (aM rfl ?_)))
     refine aL_eff (q := false) rfl (e_clearB (cap := cb) 2 Tryz.underlying280 Tryz.zeroValue5 rfl rfl (by omega) (by omega) ?_)
     refine aL_nil (blk_n (thn_n (awp_region ?_)))
     refine aU rfl (q_addi rfl rfl (by omega)) ?_
     refine aM rfl (aNn ?_)
     refine ⟨[1, 2, 5, 6, 24, 25, 26], [2, 1, 0], [0, 1, 2], rfl, ?_⟩
     exact ⟨k + 1, ⟨by omega, rfl⟩, by omega⟩
  ·skip
   refine awp_exit (thn_e (thn_e (blk_hit (thn_n (awp_seq ?_)))))
   refine awp_drawn [] (by kernel_rfl) ?_
   show aB _ _ _ _ _ 17 #[false, false, false, false, false, false, false, false, false, false, false, false, false, false, false, false, false] _
   refine bU 0 rfl (by kernel_rfl) rfl (q_fieldAddr (off := 1) (by kernel_rfl) rfl) ?_
   refine bU 1 rfl (by kernel_rfl) rfl (q_load 1 tk3 rfl rfl rfl) ?_
   refine bU 3 rfl (by kernel_rfl) rfl (q_fieldAddr (off := 2) (by kernel_rfl) rfl) ?_
   refine bU 4 rfl (by kernel_rfl) rfl (q_load 1 tk3 rfl rfl rfl) ?_
   refine bU 7 rfl (by kernel_rfl) rfl (q_fieldAddr (off := 3) (by kernel_rfl) rfl) ?_
   refine bU 8 rfl (by kernel_rfl) rfl (q_load 1 tk3 rfl rfl rfl) ?_
   refine bU 11 rfl (by kernel_rfl) rfl (q_move rfl) ?_
   refine aB_E 12 rfl (by kernel_rfl) true rfl rfl (fun _ => q_bytesStrB 2 Tryz.underlying280 Tryz.underlying5 Tryz.underlying9 rfl rfl hcb) (fun h => absurd h (by decide)) (fun ⟨tb, htb⟩ => ?_)
   refine aB_eff (q := true) 2 rfl (by kernel_rfl) rfl rfl (e_call [] [] (by kernel_rfl) rfl rfl rfl rfl (con_wnum _) ?_)
   rintro _ _ _ ⟨rfl, rfl, t1, ht1, rfl⟩
   refine aB_st rfl (by (try simp only [nM, nN]); rfl) (by (try simp only [putB, place, Nat.reduceBEq, if_true, if_false, reduceIte, Nat.reduceAdd, nW]); rfl) ?_
   refine aB_eff (q := true) 5 rfl (by kernel_rfl) rfl rfl (e_call [] [] (by kernel_rfl) rfl rfl rfl rfl (con_wnum _) ?_)
   rintro _ _ _ ⟨rfl, rfl, t2, ht2, rfl⟩
   refine aB_st rfl (by (try simp only [nM, nN]); rfl) (by (try simp only [putB, place, Nat.reduceBEq, if_true, if_false, reduceIte, Nat.reduceAdd, nW]); rfl) ?_
   refine bU 6 rfl (by kernel_rfl) rfl (qs_add rfl rfl (by omega)) ?_
   refine aB_eff (q := true) 9 rfl (by kernel_rfl) rfl rfl (e_call [] [] (by kernel_rfl) rfl rfl rfl rfl (con_wnum _) ?_)
   rintro _ _ _ ⟨rfl, rfl, t3, ht3, rfl⟩
   refine aB_st rfl (by (try simp only [nM, nN]); rfl) (by (try simp only [putB, place, Nat.reduceBEq, if_true, if_false, reduceIte, Nat.reduceAdd, nW]); rfl) ?_
   refine bU 10 rfl (by kernel_rfl) rfl (qs_add rfl rfl (by rw [ByteArray.size_append]; omega)) ?_
   refine aB_eff (q := true) 13 rfl (by kernel_rfl) rfl rfl (e_call [] [] (by kernel_rfl) rfl rfl rfl rfl (con_wtext tb (by omega)) ?_)
   rintro _ _ _ ⟨rfl, rfl, t4, ht4, rfl⟩
   refine aB_st rfl (by (try simp only [nM, nN]); rfl) (by (try simp only [putB, place, Nat.reduceBEq, if_true, if_false, reduceIte, Nat.reduceAdd, nW]); rfl) ?_
   refine bU 14 rfl (by kernel_rfl) rfl (qs_add rfl rfl (by rw [ByteArray.size_append, ByteArray.size_append]; omega)) ?_
   refine aB_eff (q := true) 15 rfl (by kernel_rfl) rfl rfl (e_call [2, 1] [] (by kernel_rfl) rfl rfl rfl rfl (con_sum _ (by rw [ByteArray.size_append, ByteArray.size_append, ByteArray.size_append]; unfold maxLen; omega)) ?_)
   rintro _ _ _ ⟨rfl, rfl, t5, rfl⟩
   refine aB_st rfl (by (try simp only [nM, nN]); rfl) (by (try simp only [putB, place, Nat.reduceBEq, if_true, if_false, reduceIte, Nat.reduceAdd, nW]); rfl) ?_
   refine bU 16 rfl (by kernel_rfl) rfl (q_assign rfl) ?_
   refine aB_nil (by kernel_rfl) ?_
   refine thn_n (awp_ret ?_)
   refine fin1 [] [] rfl Tryz.results82 rfl ?_ (.inr rfl)
   exact ⟨rfl, rfl, _, rfl⟩
end Go.Proofs.YtgmiihmahaahiaaGreatDoor

namespace Go.Proofs.YtgmiihmahaahiaaGreatDoor
open Go.RowKit Go.Lp Go.Sy
open Go.Proofs.Tryz
attribute [local irreducible] aL aB awp aC fwp
theorem con_idxfN (v : Value) (zs : List Int) (hz : zs.length ≤ 1000) (F : FuncId) (caps : List Value) (p : Per) (hF : callOk Tryz.prog F = true) (h : ∀ a ∈ zs, Con Tryz.prog F (eI a :: caps) [p] [] (fun r _ _ => r = .bool false)) : Con Tryz.prog 186 [v, .func (.func F) #[] caps.toArray] [p] [OwnS v 3 1 (zs.map rowI)]
   fun r ps hp => ps = [] ∧ hp = [OwnS v 3 1 (zs.map rowI)] ∧ r = .int .i64 (-1) := by
 refine Con.enter Tryz.func186 rfl (by simp [Tryz.ntmps186]) ?_
 show awp _ _ _ _ ⟨[(0, true, _), (1, true, _)], _, _⟩
 refine aSR (aA rfl (aNs (aSR (aM rfl (aU rfl (q_lenO 0 Tryz.underlying90 rfl rfl) (aM rfl (aNn (awp_block ?_))))))))
 refine awp_loopK [0, 1, 7, 8] [0] [0] (fun (k : Nat) s => k ≤ zs.length ∧ s = ⟨[(0, true, v), (1, true, .func (.func F) #[] caps.toArray), (7, true, .int .i64 zs.length), (8, true, .int .i64 k)], [p], [OwnS v 3 1 (zs.map rowI)]⟩) (fun k => zs.length - k) rfl (⟨0, Nat.zero_le _, by rw [List.length_map]; rfl⟩) ?_
 rintro k s ⟨hk, rfl⟩
 refine aSR (aU rfl (q_lss rfl rfl) (aNs ?_))
 refine awp_cond _ rfl (fun h1 => ?_) (fun h1 => ?_)
 ·skip
  have hk' : k < zs.length := by simpa using h1
  obtain ⟨a, ha⟩ : ∃ a, zs[k]? = some a := ⟨zs[k]'hk', by simp⟩
  refine awp_skip (thn_n (awp_seq (awp_block (aSR (aM rfl (aA rfl (aNn (aSR (aM rfl (aM rfl (aM rfl ?_)))))))))))
  refine aU rfl (q_idxO 0 k el90 rfl rfl rfl rfl (by rw [List.length_map]; exact hk')) ?_
  refine aU rfl (q_loadO 0 k 0 tk3 rfl rfl (rows_get ha) rfl rfl) (aU rfl (q_callC hF rfl rfl (fun w S fp hst => (h a (List.mem_of_getElem? ha)).quiet1 (psAt 0 rfl) hst)) (aNn ?_))
  refine awp_cond _ rfl (fun h2 => ?_) (fun h2 => ?_)
  ·skip
   exact absurd h2 (by decide)
  ·skip
   refine awp_skip (blk_n (thn_n (awp_region ?_)))
   refine aU rfl (q_addi rfl rfl (by omega)) ?_
   refine aM rfl (aNn ?_)
   refine ⟨[0, 1, 7, 8], [0], [0], rfl, ?_⟩
   exact ⟨k + 1, ⟨by omega, rfl⟩, by omega⟩
 ·skip
  refine awp_exit (thn_e (thn_e (blk_hit (thn_n (aSR (aA rfl (aNn (awp_ret ?_))))))))
  refine fin1 [] [0] rfl Tryz.results186 rfl ?_ (.inr rfl)
  exact ⟨rfl, rfl, rfl⟩
theorem con_delN (v : Value) (zs : List Int) (hz : zs.length ≤ 1000) (F : FuncId) (caps : List Value) (p : Per) (hF : callOk Tryz.prog F = true) (h : ∀ a ∈ zs, Con Tryz.prog F (eI a :: caps) [p] [] (fun r _ _ => r = .bool false)) : Con Tryz.prog 79 [v, .func (.func F) #[] caps.toArray] [p] [OwnS v 3 1 (zs.map rowI)]
   fun r ps hp => ps = [] ∧ hp = [OwnS v 3 1 (zs.map rowI)] ∧ r = v := by
 refine Con.enter Tryz.func79 rfl (by simp [Tryz.ntmps79]) ?_
 show awp _ _ _ _ ⟨[(0, true, _), (1, true, _)], _, _⟩
 refine aSR (aA rfl (aNn (aSR (aM rfl (aM rfl ?_)))))
 refine aL_eff (q := false) rfl (e_call [0] [0] (by kernel_rfl) rfl rfl rfl rfl (con_idxfN v zs hz F caps p hF h) ?_)
 rintro _ _ _ ⟨rfl, rfl, rfl⟩
 refine aL_st (by (try simp only [nM, nN]); rfl) (by (try simp only [putB, place, Nat.reduceBEq, if_true, if_false, reduceIte, Nat.reduceAdd, nW]); rfl) ?_
 refine aA rfl (aNs (aSR (aM rfl (aU rfl (q_eql rfl rfl) (aNn ?_)))))
 refine awp_cond _ rfl (fun h1 => ?_) (fun h1 => ?_)
 ·skip
  refine aSR (aM rfl (aA rfl (aNn (awp_ret (thn_r ?_)))))
  refine fin1 [] [0] rfl Tryz.results79 rfl ?_ (.inr rfl)
  exact ⟨rfl, rfl, rfl⟩
 ·skip
  exact absurd h1 (by decide)
theorem con_cloneN (l : Sl Int) (hl : l.l.length ≤ 1000) : Con Tryz.prog 80 [l.val] [ShF rowI l] [] fun r ps hp => ps = [] ∧ ∃ (ad : Option Addr) (c : Nat), r = .slice ad l.l.length c ∧ hp = [OwnS (.slice ad l.l.length c) 3 1 (l.l.map rowI)] := by
 refine Con.enter Tryz.func80 rfl (by simp [Tryz.ntmps80]) ?_
 show awp _ _ _ _ ⟨[(0, true, _)], _, _⟩
 refine awp_know (φ := l.ad = none → l.l = []) (fun w S fp hst => ?_) (fun hnil => ?_)
 · intro hn
   have hrep : RepD w S (.slice l.ad l.l.length l.cap) (.sl (l.l.map rowI)) := hst.per _ (psAt 0 rfl)
   rw [hn] at hrep
   generalize hrw : l.l.map rowI = rows at hrep
   generalize l.l.length = m at hrep
   cases hrep with
   | e => exact List.map_eq_nil_iff.1 hrw
 refine aSR (aA rfl (aNs (aSR (aM rfl (aU rfl (qn_eql Tryz.underlying90 rfl) (aNn ?_))))))
 refine awp_cond _ rfl (fun h1 => ?_) (fun h1 => ?_)
 ·skip
  have hl0 : l.l = [] := hnil (by simpa using h1)
  refine awp_seq (awp_nil 3 1 ?_)
  show awp _ _ _ _ ⟨_, _, [_]⟩
  refine awp_region (aA rfl (aNn (awp_ret (thn_r ?_))))
  refine fin1 [] [0] rfl Tryz.results80 rfl ?_ (.inr rfl)
  exact ⟨rfl, none, 0, by rw [hl0]; rfl, by rw [hl0]; rfl⟩
 ·skip
  refine awp_skip (thn_n (aSR ?_))
  refine aL_eff (q := true) rfl (w_lit0 el90 rfl (fun v3_0 => ?_))
  refine aL_hp (by (try simp only [nM, nN]); rfl) ?_
  refine aM rfl ?_
  refine aL_eff rfl (w_appendS 0 el90 el90 rfl rfl rfl rfl (psAt 0 rfl) ((fun r hr => by obtain ⟨z, _, rfl⟩ := List.mem_map.1 hr; rfl)) (by show ([] : List (List D)).length + (l.l.map rowI).length ≤ _; rw [List.length_map]; exact Nat.le_trans (show 0 + l.l.length ≤ 1000 by omega) (by decide)) (l.l.length) (by simp; try omega) (fun v3_2 c3_2 => ?_))
  refine aL_hp (by (try simp only [nK, nL]); rfl) ?_
  refine aA rfl (aNn (awp_ret ?_))
  refine fin1 [] [0] rfl Tryz.results80 rfl ?_ (.inr rfl)
  exact ⟨rfl, v3_2, c3_2, rfl, rfl⟩
theorem con_sect1 (b : Nat) (o : GObject) (z : Int) (hz : 0 ≤ z ∧ z < o.secs.l.length) : Con Tryz.prog 81 [eI z, .pointer (some ⟨b, 0, none⟩)] [AndP (At b 0 o.row) o.ok] [] (fun r _ _ => r = .bool false) := by
 refine Con.pre (ps := [At b 0 o.row, o.ok]) ?_ (ent2 ent1.left ent1.right)
 refine Con.enter Tryz.func81 rfl (by simp [Tryz.ntmps81]) ?_
 show awp _ _ _ _ ⟨[(0, true, _), (1, true, _)], _, _⟩
 refine awp_lenE (GObject.f_secs (.of (psAt 1 rfl))) (fun hlen => ?_)
 refine aSR (aA rfl (aNn (aSR (aM rfl (aU rfl (q_lss rfl rfl) (aM rfl (aG rfl rfl (fun hc => q_move rfl) ?_)))))))
 refine aG rfl rfl (fun hc => q_fieldAddr (off := 1) (by kernel_rfl) rfl) ?_
 refine aG rfl rfl (fun hc => q_loadDE (o := 1) tk50 (ev_yes rfl hc) (.of (psAt 0 rfl)) rfl) (aG rfl rfl (fun hc => q_lenS Tryz.underlying50 (ev_yes rfl hc)) (aG rfl rfl (fun hc => q_geq (ev_yes rfl hc) (ev_yes rfl hc)) (aU rfl (q_or rfl rfl (fun h => gf rfl h)) (aA rfl (aNn (awp_ret ?_))))))
 refine fin1 [] [] rfl Tryz.results81 rfl ?_ (.inr rfl)
 simp; omega
theorem con_sections (o : GObject) (g : GGroup) (hl : g.secs.l.length ≤ 1000) (hz : ∀ z ∈ g.secs.l, 0 ≤ z ∧ z < o.secs.l.length) : Con Tryz.prog 32 [o.val, g.val] [ShF rowI g.secs, o.ok] [] fun r ps hp => hp = [] ∧ ∃ s : Sl Int, s.l = g.secs.l ∧ r = s.val ∧ ps = [ShF rowI s] := by
 refine Con.conv (R := fun r ps hp => ps = [] ∧ ∃ (ad : Option Addr) (c : Nat), r = .slice ad g.secs.l.length c ∧ hp = [OwnS (.slice ad g.secs.l.length c) 3 1 (g.secs.l.map rowI)]) ?_ fun _ _ _ ⟨h1, ad, c, h2, h3⟩ => ?_
 rotate_left
 · subst h1 h2 h3
   exact ⟨_, _, (StE.share 0 (ShF rowI ⟨ad, c, g.secs.l⟩) rfl fun _ _ _ h => own_rep h).trans (StE.keep [0] [] rfl), rfl, ⟨ad, c, g.secs.l⟩, rfl, rfl, rfl⟩
 refine Con.enter Tryz.func32 rfl (by simp [Tryz.ntmps32]) ?_
 show awp _ _ _ _ ⟨[(0, true, _), (1, true, _)], _, _⟩
 refine aSR ?_
 refine aL_eff (q := true) rfl (x_box rfl rfl rfl (fun b0_0 => ?_))
 refine aL_hp (by (try simp only [nM, nN]); rfl) ?_
 refine aL_eff (q := true) rfl (x_box rfl rfl rfl (fun b0_1 => ?_))
 refine aL_hp (by (try simp only [nM, nN]); rfl) ?_
 refine aA rfl (aNs (awp_shareB 0 rfl rfl ?_))
 show awp _ _ _ _ ⟨_, At _ 0 _ :: _, _⟩
 refine awp_region ?_
 refine aU rfl (q_fieldAddr (off := 1) (by kernel_rfl) rfl) ?_
 refine aU rfl (q_load 1 tk90 rfl rfl rfl) ?_
 refine aL_eff (q := true) rfl (e_call [1] [] (by kernel_rfl) rfl rfl rfl rfl (con_cloneN g.secs hl) ?_)
 rintro _ _ _ ⟨rfl, ad, cc, rfl, rfl⟩
 refine aL_st (by (try simp only [nM, nN]); rfl) (by (try simp only [putB, place, Nat.reduceBEq, if_true, if_false, reduceIte, Nat.reduceAdd, nW]); rfl) ?_
 refine aU rfl (q_func (l := [.tmp 2]) rfl) ?_
 refine aL_eff (q := false) rfl (e_call [2, 0] [2] (by kernel_rfl) rfl rfl rfl rfl ((con_delN (.slice ad g.secs.l.length cc) g.secs.l hl 81 [.pointer (some ⟨b0_0, 0, none⟩)] (AndP (At b0_0 0 o.row) o.ok) (by kernel_rfl) (fun z hz2 => con_sect1 b0_0 o z (hz z hz2))).pre (fun p hp => (List.mem_singleton.1 hp) ▸ .mk2 (.of (psAt 0 rfl)) (.of (psAt 1 rfl)))) ?_)
 rintro _ _ _ ⟨rfl, rfl, rfl⟩
 refine aL_st (by (try simp only [nM, nN]); rfl) (by (try simp only [putB, place, Nat.reduceBEq, if_true, if_false, reduceIte, Nat.reduceAdd, nW]); rfl) ?_
 refine aA rfl (aNn (awp_ret ?_))
 refine fin1 [] [2] rfl Tryz.results32 rfl ?_ (.inr rfl)
 exact ⟨rfl, ad, cc, rfl, rfl⟩
end Go.Proofs.YtgmiihmahaahiaaGreatDoor

namespace Go.Proofs.YtgmiihmahaahiaaGreatDoor
open Go.RowKit Go.Lp Go.Sy
open Go.Proofs.Tryz
attribute [local irreducible] aL aB awp aC fwp
abbrev rowS : ByteArray → List D := fun s => [.v (.string s)]
theorem con_equalS (a b : Sl ByteArray) : Con Tryz.prog 83 [a.val, b.val] [ShF rowS a, ShF rowS b] [] (YB True) := by
 refine Con.enter Tryz.func83 rfl (by simp [Tryz.ntmps83]) ?_
 show awp _ _ _ _ ⟨[(0, true, _), (1, true, _)], _, _⟩
 refine awp_lenE (.of (psAt 0 rfl)) (fun hlen => ?_)
 refine awp_lenE (.of (psAt 1 rfl)) (fun hlen2 => ?_)
 refine aSR (aA rfl (aNs (aSR (aM rfl (aU rfl (q_lenS Tryz.underlying77 rfl) (aM rfl (aU rfl (q_lenS Tryz.underlying77 rfl) (aU rfl (q_neq rfl rfl) (aNn ?_)))))))))
 refine awp_cond _ rfl (fun h1 => ?_) (fun h1 => ?_)
 ·skip
  refine aSR (aA rfl (aNn (awp_ret (thn_r ?_))))
  refine fin1 [] [] rfl Tryz.results83 rfl ?_ (.inr rfl)
  exact ⟨⟨rfl, rfl⟩, _, rfl, fun _ => trivial⟩
 ·skip
  have hab : a.l.length = b.l.length := by simp at h1; omega
  refine awp_skip (thn_n (awp_seq (aSR (aM rfl (aU rfl (q_lenS Tryz.underlying77 rfl) (aM rfl ?_))))))
  refine aNn (awp_block (awp_loopK [0, 1, 11, 12, 13] [1, 0] [] (fun (k : Nat) s => k ≤ a.l.length ∧ s = ⟨[(0, true, a.val), (1, true, b.val), (11, true, a.val), (12, true, .int .i64 a.l.length), (13, true, .int .i64 k)], [ShF rowS a, ShF rowS b], []⟩) (fun k => a.l.length - k) rfl (⟨0, Nat.zero_le _, rfl⟩) ?_))
  rintro k s ⟨hk, rfl⟩
  refine aSR (aU rfl (q_lss rfl rfl) (aNs ?_))
  refine awp_cond _ rfl (fun h2 => ?_) (fun h2 => ?_)
  ·skip
   have hk' : k < a.l.length := by simpa using h2
   obtain ⟨x, hx⟩ : ∃ x, a.l[k]? = some x := ⟨_, List.getElem?_eq_getElem hk'⟩
   obtain ⟨y, hy⟩ : ∃ y, b.l[k]? = some y := ⟨_, List.getElem?_eq_getElem (by omega)⟩
   refine awp_skip (thn_n (awp_seq (awp_block (aSR (aM rfl (aA rfl (aNs ?_)))))))
   refine awp_drawn [] (by kernel_rfl) ?_
   show aB _ _ _ _ _ 9 #[false, false, false, false, false, false, false, false, false] _
   refine bU 0 rfl (by kernel_rfl) rfl (q_move rfl) ?_
   refine bU 1 rfl (by kernel_rfl) rfl (q_move rfl) ?_
   refine aB_E 2 rfl (by kernel_rfl) true rfl rfl (fun _ => q_indexAddrG Tryz.underlying77 tk9 rfl ((.of (psAt 0 rfl))) rfl (rows_get hx) rfl rfl) (fun h => absurd h (by decide)) (fun ⟨b6_2, o6_2⟩ => ?_)
   refine bU 3 rfl (by kernel_rfl) rfl (q_loadD (o := 0) tk9 rfl (psAt 0 rfl) rfl rfl) ?_
   refine bU 4 rfl (by kernel_rfl) rfl (q_move rfl) ?_
   refine bU 5 rfl (by kernel_rfl) rfl (q_move rfl) ?_
   refine aB_E 6 rfl (by kernel_rfl) true rfl rfl (fun _ => q_indexAddrG Tryz.underlying77 tk9 rfl ((.of (psAt 2 rfl))) rfl (rows_get hy) rfl rfl) (fun h => absurd h (by decide)) (fun ⟨b6_6, o6_6⟩ => ?_)
   refine bU 7 rfl (by kernel_rfl) rfl (q_loadD (o := 0) tk9 rfl (psAt 0 rfl) rfl rfl) ?_
   refine bU 8 rfl (by kernel_rfl) rfl (qs_neq rfl rfl) ?_
   refine aB_nil (by kernel_rfl) ?_
   refine thn_n ?_
   refine awp_cond _ rfl (fun h3 => ?_) (fun h3 => ?_)
   ·skip
    refine aSR (aA rfl (aNn (awp_ret (blk_r (thn_r (thn_r (blk_r (thn_r ?_))))))))
    refine fin1 [] [] rfl Tryz.results83 rfl ?_ (.inr rfl)
    exact ⟨⟨rfl, rfl⟩, _, rfl, fun _ => trivial⟩
   ·skip
    refine awp_skip (blk_n (thn_n (awp_region ?_)))
    refine aU rfl (q_addi rfl rfl (by omega)) ?_
    refine aM rfl (aNn ?_)
    refine ⟨[0, 1, 11, 12, 13], [1, 0], [], rfl, ?_⟩
    exact ⟨k + 1, ⟨by omega, rfl⟩, by omega⟩
  ·skip
   refine awp_exit (thn_e (thn_e (blk_hit (thn_n (aSR (aA rfl (aNn (awp_ret ?_))))))))
   refine fin1 [] [] rfl Tryz.results83 rfl ?_ (.inr rfl)
   exact ⟨⟨rfl, rfl⟩, _, rfl, fun _ => trivial⟩
structure Cp where
 obj : Int
 nm : Sl ByteArray
 fm : Sl ByteArray
 deriving Inhabited
abbrev Cp.val (c : Cp) : Value := .agg #[.int .i64 c.obj, .slice c.nm.ad c.nm.l.length c.nm.cap, .slice c.fm.ad c.fm.l.length c.fm.cap]
abbrev Cp.vs (c : Cp) : List Value := [.int .i64 c.obj, .slice c.nm.ad c.nm.l.length c.nm.cap, .slice c.fm.ad c.fm.l.length c.fm.cap]
def Cp.ok (c : Cp) : Per := AndP (ShF rowS c.nm) (ShF rowS c.fm)
theorem con_alike (a b : Cp) : Con Tryz.prog 34 [a.val, b.val] [a.ok, b.ok] [] (YB True) := by
 refine Con.enter Tryz.func34 rfl (by simp [Tryz.ntmps34]) ?_
 show awp _ _ _ _ ⟨[(0, true, _), (1, true, _)], _, _⟩
 refine aSR ?_
 refine aL_eff (q := true) rfl (x_box rfl rfl rfl (fun b0_0 => ?_))
 refine aL_hp (by (try simp only [nM, nN]); rfl) ?_
 refine aL_eff (q := true) rfl (x_box rfl rfl rfl (fun b0_1 => ?_))
 refine aL_hp (by (try simp only [nM, nN]); rfl) ?_
 refine aA rfl (aNn (aSR ?_))
 refine aU rfl (q_fieldAddr (off := 1) (by kernel_rfl) rfl) ?_
 refine aU rfl (q_load 0 tk77 rfl rfl rfl) ?_
 refine aU rfl (q_fieldAddr (off := 1) (by kernel_rfl) rfl) ?_
 refine aU rfl (q_load 1 tk77 rfl rfl rfl) ?_
 refine aL_callN (caps := []) [1, 0] (false) (by kernel_rfl) true rfl rfl (fun _ => rfl) (fun hc => rfl) (fun hc => by rw [List.append_nil]; exact (con_equalS a.nm b.nm).pre (ent2 (Ent.left (p := ShF rowS a.nm) (q := ShF rowS a.fm) (.of (psAt 0 rfl))) (Ent.left (p := ShF rowS b.nm) (q := ShF rowS b.fm) (.of (psAt 1 rfl))))) (fun c1 hc1 => ?_)
 refine aM rfl ?_
 refine aG rfl rfl (fun hc => q_fieldAddr (off := 2) (by kernel_rfl) rfl) ?_
 refine aG rfl rfl (fun hc => q_load 0 tk77 (ev_yes rfl hc) rfl rfl) ?_
 refine aG rfl rfl (fun hc => q_fieldAddr (off := 2) (by kernel_rfl) rfl) ?_
 refine aG rfl rfl (fun hc => q_load 1 tk77 (ev_yes rfl hc) rfl rfl) ?_
 refine aL_callN (caps := []) [1, 0] (false) (by kernel_rfl) _ rfl rfl (fun _ => rfl) (fun hc => (evs_cons (ev_yes rfl hc) (evs_cons (ev_yes rfl hc) rfl))) (fun hc => by rw [List.append_nil]; exact (con_equalS a.fm b.fm).pre (ent2 (Ent.right (p := ShF rowS a.nm) (q := ShF rowS a.fm) (.of (psAt 0 rfl))) (Ent.right (p := ShF rowS b.nm) (q := ShF rowS b.fm) (.of (psAt 1 rfl))))) (fun c2 hc2 => ?_)
 refine aU rfl (q_and rfl rfl (fun h => gt rfl h)) (aA rfl (aNn (awp_ret ?_)))
 refine fin1 [] [] rfl Tryz.results34 rfl ?_ (.inr rfl)
 exact ⟨⟨rfl, rfl⟩, _, rfl, fun _ => trivial⟩
theorem con_read (os : Sl GObject) (i : Nat) (hi : i < os.l.length) (hb : ∀ s ∈ (elt os.l (i : Int)).secs.l, s.bytes.size ≤ 1048576) (s : Sl Int) (hl : s.l.length ≤ 1000) (hz : ∀ z ∈ s.l, 0 ≤ z ∧ z < (elt os.l (i : Int)).secs.l.length) :
   Con Tryz.prog 33 [os.val, .int .i64 i, s.val] [ShF rowI s, constAt, turnsAt, ShF GObject.row os, AllF GObject.ok os.l] [] fun r ps hp => hp = [] ∧ ∃ c : Cp, r = c.val ∧ ps = [c.ok] := by
 have ho := elt_nat hi
 generalize hoo : elt os.l (i : Int) = o at ho hb hz
 refine Con.conv (R := fun r ps hp => ps = [] ∧ ∃ (na : Option Addr) (nc : Nat) (nm : List ByteArray) (fa : Option Addr) (fc : Nat) (fm : List ByteArray), r = .agg #[.int .i64 i, .slice na nm.length nc, .slice fa fm.length fc] ∧ hp = [OwnS (.slice na nm.length nc) 9 1 (nm.map rowS), OwnS (.slice fa fm.length fc) 9 1 (fm.map rowS)]) ?_ fun _ _ _ ⟨h1, na, nc, nm, fa, fc, fm, h2, h3⟩ => ?_
 rotate_left
 · subst h1 h2 h3
   refine ⟨_, _, (StE.share 0 (ShF rowS ⟨na, nc, nm⟩) rfl fun _ _ _ h => own_rep h).trans ((StE.share 1 (ShF rowS ⟨fa, fc, fm⟩) rfl fun _ _ _ h => own_rep h).trans ((StE.keep [0, 1] [] rfl).trans (StE.ents (ps' := [(⟨i, ⟨na, nc, nm⟩, ⟨fa, fc, fm⟩⟩ : Cp).ok]) fun p hp => ?_))), rfl, ⟨i, ⟨na, nc, nm⟩, ⟨fa, fc, fm⟩⟩, rfl, rfl⟩
   rw [List.mem_singleton.1 hp]
   exact .mk2 (.of (psAt 0 rfl)) (.of (psAt 1 rfl))
 refine Con.enter Tryz.func33 rfl (by simp [Tryz.ntmps33]) ?_
 show awp _ _ _ _ ⟨[(0, true, _), (1, true, _), (2, true, _)], _, _⟩
 refine awp_lenE (.of (psAt 0 rfl)) (fun hlen => ?_)
 refine aSR ?_
 refine aL_eff (q := true) rfl (x_alloc (zs := [.int .i64 0, .slice none 0 0, .slice none 0 0]) (by kernel_rfl) rfl (fun b0_0 => ?_))
 refine aL_hp (by (try simp only [nM, nN]); rfl) ?_
 refine aNn (aSR (aM rfl ?_))
 refine aU rfl (q_bld (l := [(0, .tmp 10)]) (zs := [.int .i64 0, .slice none 0 0, .slice none 0 0]) (pl := [(0, 1), (1, 1), (2, 1)]) (by kernel_rfl) (by kernel_rfl) (by kernel_rfl) rfl rfl rfl) ?_
 refine aL_eff (q := true) rfl (x_alloc (zs := [.int .i64 0, .slice none 0 0, .slice none 0 0]) (by kernel_rfl) rfl (fun b1_2 => ?_))
 refine aL_hp (by (try simp only [nM, nN]); rfl) ?_
 refine aL_eff rfl (x_store 1 tk95 rfl rfl rfl rfl ?_)
 refine aL_hp (by (try simp only [nK, nL]); rfl) ?_
 refine aNs (awp_seq ?_)
 refine awp_nil 9 1 (awp_nil 9 1 ?_)
 show awp _ _ _ _ ⟨_, _, [_, _, _, _]⟩
 refine awp_region (aM rfl (aU rfl (q_lenS Tryz.underlying90 rfl) (aM rfl (aNn (awp_block (awp_loopK [0, 1, 6, 7, 12, 13, 14] [4, 3, 2, 1, 0] [0, 1, 2, 3] (fun (q : Nat × ((Value × List ByteArray) × (Value × List ByteArray))) st => (q.1 ≤ s.l.length ∧ q.2.1.2.length = q.1 ∧ q.2.2.2.length = q.1) ∧ st = ⟨[(0, true, os.val), (1, true, .int .i64 i), (6, true, .pointer (some ⟨b0_0, 0, none⟩)), (7, true, .pointer (some ⟨b1_2, 0, none⟩)), (12, true, s.val), (13, true, .int .i64 s.l.length), (14, true, .int .i64 q.1)], [ShF rowI s, constAt, turnsAt, ShF GObject.row os, AllF GObject.ok os.l], [Box b0_0 95 [.int .i64 0, .slice none 0 0, .slice none 0 0], Box b1_2 95 [.int .i64 i, q.2.1.1, q.2.2.1], OwnS q.2.1.1 9 1 (q.2.1.2.map rowS), OwnS q.2.2.1 9 1 (q.2.2.2.map rowS)]⟩) (fun q => s.l.length - q.1) rfl (⟨(0, ((.slice none 0 0, []), (.slice none 0 0, []))), ⟨Nat.zero_le _, rfl, rfl⟩, rfl⟩) ?_))))))
 rintro ⟨k, ⟨nv, nm⟩, ⟨fv, fm⟩⟩ st ⟨⟨hk, hn, hf⟩, rfl⟩
 dsimp only at hk hn hf ⊢
 refine aSR (aU rfl (q_lss rfl rfl) (aNs ?_))
 refine awp_cond _ rfl (fun h1 => ?_) (fun h1 => ?_)
 ·skip
  have hk' : k < s.l.length := by simpa using h1
  obtain ⟨z, hzk⟩ : ∃ z, s.l[k]? = some z := ⟨_, List.getElem?_eq_getElem hk'⟩
  have hzr := hz z (List.mem_of_getElem? hzk)
  refine awp_skip (thn_n (awp_seq (awp_block (aSR ?_))))
  refine aL_E true rfl rfl (fun _ => q_indexAddrG Tryz.underlying90 tk3 rfl ((.of (psAt 0 rfl))) rfl (rows_get hzk) rfl rfl) (fun h => absurd h (by decide)) (fun ⟨b4_0, o4_0⟩ => ?_)
  refine aU rfl (q_loadD (o := 0) tk3 rfl (psAt 0 rfl) rfl rfl) (aA rfl (aNs ?_))
  refine awp_drawnC [12, 14] [14] [b1_2] (by kernel_rfl) ?_
  show aC _ _ _ _ _ _ _ 15 #[false, false, false, false, false, false, false, false, false, false, false, false, false, false, false] _
  refine aC_f 0 rfl (by kernel_rfl) true rfl rfl (fun _ => q_fieldAddr (off := 1) (by kernel_rfl) rfl) ?_
  refine aC_box 1 1 rfl (by kernel_rfl) true rfl rfl (by simp) tk77 (fun _ => rfl) rfl rfl ?_
  refine aC_f 2 rfl (by kernel_rfl) true rfl rfl (fun _ => q_move rfl) ?_
  refine aC_f 3 rfl (by kernel_rfl) true rfl rfl (fun _ => q_move rfl) ?_
  refine aC_R1 4 rfl (by kernel_rfl) rfl rfl (q_indexAddrGR Tryz.underlying22 tk61 rfl ((.of (psAt 4 rfl))) rfl (rows_get ho) rfl rfl) (fun ⟨b5_4, o5_4⟩ => ?_)
  refine aC_f 5 rfl (by kernel_rfl) true rfl rfl (fun _ => q_fieldAddr (off := 1) (by kernel_rfl) rfl) ?_
  refine aC_f 6 rfl (by kernel_rfl) true rfl rfl (fun _ => q_loadDE (o := 1) tk50 rfl (.of (psAt 0 rfl)) rfl) ?_
  refine aC_f 7 rfl (by kernel_rfl) true rfl rfl (fun _ => q_move rfl) ?_
  refine aC_R1 8 rfl (by kernel_rfl) rfl rfl (q_indexAddrGR Tryz.underlying50 tk85 rfl ((GObject.f_secs (Ent.all (.of (psAt 6 rfl)) ho))) rfl (rows_elt (i := z) hzr.2 hzr.1) (by omega) rfl) (fun ⟨b5_8, o5_8⟩ => ?_)
  refine aC_f 9 rfl (by kernel_rfl) true rfl rfl (fun _ => q_fieldAddr (off := 0) (by kernel_rfl) rfl) ?_
  refine aC_f 10 rfl (by kernel_rfl) true rfl rfl (fun _ => q_loadDE (o := 0) tk9 rfl (.of (psAt 0 rfl)) rfl) ?_
  refine aC_arms 11 [] (by kernel_rfl) (arms_cons ?_ arms_nil)
  refine aC_arm 11 rfl rfl (Eff.x ?_)
  refine id (w_lit (zs := [.string .empty]) (l := [(0, .tmp 28)]) el77 (by kernel_rfl) (by decide) (by decide) (by decide) rfl rfl rfl (.more rfl (.v rfl .nil) .nil) rfl rfl (fun v5_11 => ?_))
  refine aC_st (by (try simp only [nO, nK, nL]); rfl) (by (try simp only [nM, nN]); rfl) (by (try simp only [keepH, nQ, nR, putB, place, Nat.reduceBEq, if_true, if_false, reduceIte, Nat.reduceAdd, nW]); rfl) ?_
  refine aC_arms 12 [] (by kernel_rfl) (arms_cons ?_ arms_nil)
  refine aC_arm 12 rfl rfl (Eff.framed (q := false) [2, 4] rfl rfl (zcons 1 rfl rfl znil) ?_)
  refine id (w_append 0 el77 rfl rfl rfl rfl (w_srcO 1 el77 rfl (by simp)) (by first | assumption | simp) (by show (nm.map rowS).length + 1 ≤ _; rw [List.length_map]; exact Nat.le_trans (show nm.length + 1 ≤ 1001 by omega) (by decide)) ((nm ++ [(elt o.secs.l z).name]).length) (by show (nm.map rowS).length + 1 = _; rw [List.length_map, List.length_append]; rfl) (fun v5_12 c5_12 => ?_))
  refine fr_mk ?_
  refine aC_st (by (try simp only [nO, nK, nL]); rfl) (by (try simp only [nM, nN]); rfl) (by (try simp only [keepH, nQ, nR, putB, place, Nat.reduceBEq, if_true, if_false, reduceIte, Nat.reduceAdd, nW]); rfl) ?_
  refine aC_f 13 rfl (by kernel_rfl) true rfl rfl (fun _ => q_fieldAddr (off := 1) (by kernel_rfl) rfl) ?_
  refine aC_arms 14 [] (by kernel_rfl) (arms_cons ?_ arms_nil)
  refine aC_arm 14 rfl rfl (Eff.wild (q := false) ?_)
  refine id (x_store 1 tk77 rfl rfl rfl rfl ?_)
  refine aC_st (by (try simp only [nO, nK, nL]); rfl) (by (try simp only [nM, nN]); rfl) (by (try simp only [keepH, nQ, nR, putB, place, Nat.reduceBEq, if_true, if_false, reduceIte, Nat.reduceAdd, nW]); rfl) ?_
  refine aC_nil (by kernel_rfl) ?_
  refine thn_n ?_
  refine awp_drawnC [9, 11] [11] [b1_2] (by kernel_rfl) ?_
  show aC _ _ _ _ _ _ _ 12 #[false, false, false, false, false, false, false, false, false, false, false, false] _
  refine aC_f 0 rfl (by kernel_rfl) true rfl rfl (fun _ => q_fieldAddr (off := 2) (by kernel_rfl) rfl) ?_
  refine aC_box 1 1 rfl (by kernel_rfl) true rfl rfl (by simp) tk77 (fun _ => rfl) rfl rfl ?_
  refine aC_f 2 rfl (by kernel_rfl) true rfl rfl (fun _ => q_move rfl) ?_
  refine aC_f 3 rfl (by kernel_rfl) true rfl rfl (fun _ => q_move rfl) ?_
  refine aC_R1 4 rfl (by kernel_rfl) rfl rfl (q_indexAddrGR Tryz.underlying22 tk61 rfl ((.of (psAt 6 rfl))) rfl (rows_get ho) rfl rfl) (fun ⟨b6_4, o6_4⟩ => ?_)
  refine aC_f 5 rfl (by kernel_rfl) true rfl rfl (fun _ => q_loadDE (o := 0) tk61 rfl (.of (psAt 0 rfl)) rfl) ?_
  refine aC_f 6 rfl (by kernel_rfl) true rfl rfl (fun _ => q_move rfl) ?_
  refine aC_arms 7 [] (by kernel_rfl) (arms_cons ?_ arms_nil)
  refine aC_arm 7 rfl rfl (Eff.x ?_)
  refine id (e_call [3, 2, 0] [] (by kernel_rfl) rfl rfl rfl rfl ((con_form o hb z).pre (ent3 (.of (psAt 0 rfl)) (.of (psAt 1 rfl)) (Ent.all (.of (psAt 2 rfl)) ho))) ?_)
  rintro _ _ _ ⟨rfl, rfl, t, rfl⟩
  refine aC_st (by (try simp only [nO, nK, nL]); rfl) (by (try simp only [nM, nN]); rfl) (by (try simp only [keepH, nQ, nR, putB, place, Nat.reduceBEq, if_true, if_false, reduceIte, Nat.reduceAdd, nW]); rfl) ?_
  refine aC_arms 8 [] (by kernel_rfl) (arms_cons ?_ arms_nil)
  refine aC_arm 8 rfl rfl (Eff.x ?_)
  refine id (w_lit (zs := [.string .empty]) (l := [(0, .tmp 39)]) el77 (by kernel_rfl) (by decide) (by decide) (by decide) rfl rfl rfl (.more rfl (.v rfl .nil) .nil) rfl rfl (fun v6_8 => ?_))
  refine aC_st (by (try simp only [nO, nK, nL]); rfl) (by (try simp only [nM, nN]); rfl) (by (try simp only [keepH, nQ, nR, putB, place, Nat.reduceBEq, if_true, if_false, reduceIte, Nat.reduceAdd, nW]); rfl) ?_
  refine aC_arms 9 [] (by kernel_rfl) (arms_cons ?_ arms_nil)
  refine aC_arm 9 rfl rfl (Eff.framed (q := false) [3, 5] rfl rfl (zcons 1 rfl rfl znil) ?_)
  refine id (w_append 0 el77 rfl rfl rfl rfl (w_srcO 1 el77 rfl (by simp)) (by first | assumption | simp) (by show (fm.map rowS).length + 1 ≤ _; rw [List.length_map]; exact Nat.le_trans (show fm.length + 1 ≤ 1001 by omega) (by decide)) ((fm ++ [t]).length) (by show (fm.map rowS).length + 1 = _; rw [List.length_map, List.length_append]; rfl) (fun v6_9 c6_9 => ?_))
  refine fr_mk ?_
  refine aC_st (by (try simp only [nO, nK, nL]); rfl) (by (try simp only [nM, nN]); rfl) (by (try simp only [keepH, nQ, nR, putB, place, Nat.reduceBEq, if_true, if_false, reduceIte, Nat.reduceAdd, nW]); rfl) ?_
  refine aC_f 10 rfl (by kernel_rfl) true rfl rfl (fun _ => q_fieldAddr (off := 2) (by kernel_rfl) rfl) ?_
  refine aC_arms 11 [] (by kernel_rfl) (arms_cons ?_ arms_nil)
  refine aC_arm 11 rfl rfl (Eff.wild (q := false) ?_)
  refine id (x_store 1 tk77 rfl rfl rfl rfl ?_)
  refine aC_st (by (try simp only [nO, nK, nL]); rfl) (by (try simp only [nM, nN]); rfl) (by (try simp only [keepH, nQ, nR, putB, place, Nat.reduceBEq, if_true, if_false, reduceIte, Nat.reduceAdd, nW]); rfl) ?_
  refine aC_nil (by kernel_rfl) ?_
  refine blk_n (thn_n (awp_region ?_))
  refine aU rfl (q_addi rfl rfl (by omega)) ?_
  refine aM rfl (aNn ?_)
  refine ⟨[0, 1, 6, 7, 12, 13, 14], [4, 3, 2, 1, 0], [0, 1, 2, 3], rfl, ?_⟩
  exact ⟨(k + 1, ((_, nm ++ [(elt o.secs.l z).name]), (_, fm ++ [t]))), ⟨⟨by dsimp only; omega, by dsimp only; rw [List.length_append]; simp; omega, by dsimp only; rw [List.length_append]; simp; omega⟩, by dsimp only; rw [List.map_append, List.map_append]; rfl⟩, by dsimp only; omega⟩
 ·skip
  refine awp_exit (thn_e (thn_e (blk_hit (thn_n (awp_seq ?_)))))
  refine awp_ownForm 2 rfl (fun na nc hv => ?_)
  refine awp_ownForm 3 rfl (fun fa fc hv2 => ?_)
  rw [List.length_map] at hv hv2
  subst hv hv2
  refine awp_region (aU rfl (q_load 1 tk95 rfl rfl rfl) ?_)
  refine aL_eff rfl (x_store 0 tk95 rfl rfl rfl rfl ?_)
  refine aL_hp (by (try simp only [nK, nL]); rfl) ?_
  refine aNn (awp_ret ?_)
  refine finR1 [] [2, 3] rfl Tryz.results33 (rv_cell 0 tk95 rfl rfl rfl) ?_ (.inr rfl)
  exact ⟨rfl, na, nc, nm, fa, fc, fm, rfl, rfl⟩
end Go.Proofs.YtgmiihmahaahiaaGreatDoor

namespace Go.Proofs
open Go.Shelf
def Tryz.lays212_ren : Go.Shelf.Ren := ⟨fun | 212 => 78 | 263 => 184 | 264 => 185 | n => n, fun | 46 => 147 | 51 => 272 | 146 => 273 | 53 => 275 | 148 => 276 | n => n, fun | n => n⟩
theorem Tryz.lays212 : Go.Proofs.Lays.n212 Tryz.prog Tryz.lays212_ren := {
 mixed := by kernel_rfl
 f212 := Tryz.func78.trans (congrArg some (by kernel_rfl))
 f263 := Tryz.func184.trans (congrArg some (by kernel_rfl))
 f264 := Tryz.func185.trans (congrArg some (by kernel_rfl))
 t46 := Tryz.underlying147
 a46 := Tryz.isAgg147
 z46 := Tryz.sizeOf147
 v46 := Tryz.zeroValue147
 t51 := Tryz.underlying272
 a51 := Tryz.isAgg272
 z51 := Tryz.sizeOf272
 v51 := Tryz.zeroValue272
 t53 := Tryz.underlying275
 a53 := Tryz.isAgg275
 z53 := Tryz.sizeOf275
 v53 := Tryz.zeroValue275
 t146 := Tryz.underlying273
 a146 := Tryz.isAgg273
 z146 := Tryz.sizeOf273
 v146 := Tryz.zeroValue273
 t148 := Tryz.underlying276
 a148 := Tryz.isAgg276
 z148 := Tryz.sizeOf276
 v148 := Tryz.zeroValue276 }
end Go.Proofs

namespace Go.Proofs.YtgmiihmahaahiaaGreatDoor
open Go.RowKit Go.Lp Go.Sy
open Go.Proofs.Tryz
attribute [local irreducible] aL aB awp aC fwp
theorem mulB (N : Nat) (hN : N ≤ 1000000) (w : World) : Calls Tryz.prog 78 #[.int .u64 (IntKind.u64.wrap 1), .int .u64 (IntKind.u64.wrap (N : Int))] w fun e w' => e = .returned (.tuple #[.int .u64 0, .int .u64 N]) ∧ Go.Sy.Below w.heap.size w w' := by
 have h := Any.bits_Mul Tryz.lays212 1 N (by omega) (by omega) w
 have e1 : IntKind.u64.wrap 1 = 1 := by decide
 have e2 : IntKind.u64.wrap (N : Int) = N := by rw [IntKind.wrap_u64]; omega
 rw [e1, e2]
 refine h.mono fun e w' ⟨h1, h2⟩ => ⟨?_, by rw [h2]; exact Go.Sy.Below.refl _ _⟩
 rw [h1]
 have e3 : 1 * N / 18446744073709551616 = 0 := by omega
 have e4 : 1 * N % 18446744073709551616 = N := by omega
 rw [e3, e4]; rfl
theorem wrapNB (N : Nat) (hN : N ≤ 1000000) : IntKind.i64.wrap (N : Int) = N := by rw [IntKind.wrap_i64]; omega
def partB (N k : Nat) (v : Bool) : List Bool := List.replicate k v ++ List.replicate (N - k) false
theorem partB_len {N k : Nat} (v : Bool) (h : k ≤ N) : (partB N k v).length = N := by simp [partB]; omega
theorem partB_step {N k j : Nat} (v : Bool) (hj : j ≤ k) (h : k + j ≤ N) : (partB N k v).take k ++ (partB N k v).take j ++ (partB N k v).drop (k + j) = partB N (k + j) v := by
 unfold partB
 rw [List.take_append_of_le_length (by simp), List.take_append_of_le_length (by simpa using hj), List.drop_append, List.drop_of_length_le (by simp)]
 simp only [List.take_replicate, List.drop_replicate, List.length_replicate, List.nil_append, Nat.min_self, Nat.min_eq_left hj]
 rw [List.replicate_append_replicate]
 congr 2; omega
theorem con_repB0 {ad : Option Addr} {c : Nat} (v : Bool) : Con Tryz.prog 31 [.slice ad 1 c, .int .i64 ((0 : Nat) : Int)] [Sh (.slice ad 1 c) (.sl (encR Value.bool [v]))] [] fun r ps hp => ps = [] ∧ hp = [OwnS r 4 1 (encR Value.bool [])] := by
 refine Con.enter Tryz.func31 rfl (by simp [Tryz.ntmps31]) ?_
 show awp _ _ _ _ ⟨[(0, true, _), (1, true, _)], _, _⟩
 refine aSR (aA rfl (aNs (aSR (aM rfl (aU rfl (q_lss rfl rfl) (aNn ?_))))))
 refine awp_cond _ rfl (fun h1 => ?_) (fun h1 => ?_)
 ·skip
  exact absurd h1 (by simp)
 ·skip
  refine awp_skip (thn_n (aSR (aM rfl (aU rfl (q_lenS Tryz.underlying68 rfl) ?_))))
  refine aU rfl (q_convI (by kernel_rfl) Tryz.underlying147 rfl) ?_
  refine aM rfl ?_
  refine aU rfl (q_convI (by kernel_rfl) Tryz.underlying147 rfl) ?_
  refine aU rfl (q_call (by kernel_rfl) rfl (fun w S fp hst => mulB 0 (by omega) w)) ?_
  refine aM rfl (aU rfl (q_extract rfl rfl) (aU rfl (q_extract rfl rfl) (aA rfl (aA rfl (aNs (aSR (aM rfl (aU rfl (q_gtr rfl rfl) (aM rfl (aG rfl rfl (fun hc => q_move rfl) (aG rfl rfl (fun hc => q_gtr (ev_yes rfl hc) rfl) (aU rfl (q_or rfl rfl (fun h => gf rfl h)) (aNn ?_)))))))))))))
  refine awp_cond _ rfl (fun h2 => ?_) (fun h2 => ?_)
  ·skip
   exact absurd h2 (by decide)
  ·skip
   refine awp_skip (thn_n (aSR (aM rfl ?_)))
   refine aU rfl (q_convI (by kernel_rfl) Tryz.underlying3 rfl) ?_
   refine aL_eff (q := true) rfl (w_make (m := 0) (zs := [.bool false]) el68 (by kernel_rfl) rfl (by decide) (ev_int rfl (rfl)) (ev_int rfl (rfl)) (by omega) rfl (fun v6_2 => ?_))
   refine aL_hp (by (try simp only [nM, nN]); rfl) ?_
   refine aA rfl (aNn (aSR (aM rfl (aM rfl (aU rfl (q_copy0 el68 rfl rfl) ?_)))))
   refine aA rfl (aNs (awp_block (awp_loopK [7, 8] [] [0] (fun (k : Nat) s => s = ⟨[(7, true, .slice v6_2 0 0), (8, true, .int .i64 0)], [], [OwnS (.slice v6_2 0 0) 4 1 (encR Value.bool [])]⟩) (fun k => k) rfl (⟨0, rfl⟩) ?_)))
   rintro k s rfl
   refine awp_seq (aSR (aM rfl (aM rfl (aU rfl (q_lenO 0 Tryz.underlying68 rfl rfl) (aU rfl (q_lss rfl rfl) (aNn ?_))))))
   refine awp_cond _ rfl (fun h3 => ?_) (fun h3 => ?_)
   ·skip
    exact absurd h3 (by decide)
   ·skip
    refine awp_exit (thn_e (thn_e (blk_hit (thn_n (aSR (aM rfl (aA rfl (aNn (awp_ret ?_)))))))))
    refine fin1 [] [0] rfl Tryz.results31 rfl ?_ (.inr rfl)
    exact ⟨rfl, rfl⟩
theorem con_repB1 {ad : Option Addr} {c : Nat} (v : Bool) (N : Nat) (hN : N ≤ 1000000) (h0 : 0 < N) : Con Tryz.prog 31 [.slice ad 1 c, .int .i64 N] [Sh (.slice ad 1 c) (.sl (encR Value.bool [v]))] [] fun r ps hp => ps = [] ∧ hp = [OwnS r 4 1 (encR Value.bool (List.replicate N v))] := by
 refine Con.enter Tryz.func31 rfl (by simp [Tryz.ntmps31]) ?_
 show awp _ _ _ _ ⟨[(0, true, _), (1, true, _)], _, _⟩
 refine aSR (aA rfl (aNs (aSR (aM rfl (aU rfl (q_lss rfl rfl) (aNn ?_))))))
 refine awp_cond _ rfl (fun h1 => ?_) (fun h1 => ?_)
 ·skip
  exact absurd h1 (by simp)
 ·skip
  refine awp_skip (thn_n (aSR (aM rfl (aU rfl (q_lenS Tryz.underlying68 rfl) ?_))))
  refine aU rfl (q_convI (by kernel_rfl) Tryz.underlying147 rfl) ?_
  refine aM rfl ?_
  refine aU rfl (q_convI (by kernel_rfl) Tryz.underlying147 rfl) ?_
  refine aU rfl (q_call (by kernel_rfl) rfl (fun w S fp hst => mulB N hN w)) ?_
  refine aM rfl (aU rfl (q_extract rfl rfl) (aU rfl (q_extract rfl rfl) (aA rfl (aA rfl (aNs (aSR (aM rfl (aU rfl (q_gtr rfl rfl) (aM rfl (aG rfl rfl (fun hc => q_move rfl) (aG rfl rfl (fun hc => q_gtr (ev_yes rfl hc) rfl) (aU rfl (q_or rfl rfl (fun h => gf rfl h)) (aNn ?_)))))))))))))
  refine awp_cond _ rfl (fun h2 => ?_) (fun h2 => ?_)
  ·skip
   exact absurd h2 (by simp; omega)
  ·skip
   refine awp_skip (thn_n (awp_seq ?_))
   have hw := wrapNB N hN
   refine awp_region (aM rfl ?_)
   refine aU rfl (q_convI (by kernel_rfl) Tryz.underlying3 rfl) ?_
   refine aL_eff (q := true) rfl (w_make (m := N) (zs := [.bool false]) el68 (by kernel_rfl) rfl (by decide) (ev_int rfl (hw)) (ev_int rfl (hw)) (by omega) rfl (fun v6_2 => ?_))
   refine aL_hp (by (try simp only [nM, nN]); rfl) ?_
   refine aA rfl (aNs ?_)
   refine aw_hp (hp' := [OwnS (.slice v6_2 N N) 4 1 (encR Value.bool (List.replicate N false))]) (by simp [encR]) ?_
   refine awp_headO 0 rfl (by simp [encR]; omega) (fun B cp hvo hcp => ?_)
   obtain ⟨rfl, rfl⟩ : v6_2 = some ⟨B, 0, none⟩ ∧ N = cp := by simp at hvo; exact ⟨hvo.1, hvo.2.2⟩
   refine awp_region (aM rfl (aM rfl ?_))
   refine aL_eff (q := false) rfl (e_copyS (zs := List.replicate N false) (xs := [v]) 0 el68 (fun _ => rfl) rfl rfl rfl rfl (by simp) (psAt 0 rfl) (by simp) (by simp; omega) (by simp; omega) (partB N 1 v) (by simp [partB]) rfl ?_)
   refine aA rfl (aNs (awp_block ?_))
   refine awp_loopK [7, 8] [] [0] (fun (k : Nat) s => (1 ≤ k ∧ k ≤ N) ∧ s = ⟨[(7, true, .slice (some ⟨B, 0, none⟩) N N), (8, true, .int .i64 k)], [], [OwnS (.slice (some ⟨B, 0, none⟩) N N) 4 1 (encR Value.bool (partB N k v))]⟩) (fun k => N - k) rfl (⟨1, ⟨by omega, by omega⟩, rfl⟩) ?_
   rintro k s ⟨⟨hk1, hk2⟩, rfl⟩
   refine awp_seq (aSR (aM rfl (aM rfl (aU rfl (q_lenS Tryz.underlying68 rfl) (aU rfl (q_lss rfl rfl) (aNn ?_))))))
   refine awp_cond _ rfl (fun h3 => ?_) (fun h3 => ?_)
   ·skip
    have hkN : k < N := by simp at h3; omega
    obtain ⟨j, hj⟩ : ∃ j, j = min k (N - k) := ⟨_, rfl⟩
    refine awp_skip (thn_n (awp_block ?_))
    refine awp_drawn [7] (by kernel_rfl) ?_
    show aB _ _ _ _ _ 10 #[false, false, false, false, false, false, false, false, false, false] _
    refine aB_p 0 rfl (by kernel_rfl) true rfl rfl (fun _ => q_move rfl) ?_
    refine bU 1 rfl (by kernel_rfl) rfl (q_move rfl) ?_
    refine bU 2 rfl (by kernel_rfl) rfl (q_move rfl) ?_
    refine bU 3 rfl (by kernel_rfl) rfl (q_sliceLV k (N - k) k el68 rfl rfl rfl hkN (Nat.le_refl _) rfl (by omega)) ?_
    refine bU 4 rfl (by kernel_rfl) rfl (q_move rfl) ?_
    refine bU 5 rfl (by kernel_rfl) rfl (q_move rfl) ?_
    refine bU 6 rfl (by kernel_rfl) rfl (q_sliceHV k el68 rfl rfl rfl (by omega) (Nat.le_refl _)) ?_
    refine aB_eff (q := false) 7 rfl (by kernel_rfl) rfl rfl (e_copyO (zs := partB N k v) 0 el68 (fun _ => rfl) rfl rfl rfl rfl (partB_len v hk2) j hj (by rw [partB_len v hk2]; omega) (partB N (k + j) v) (partB_step v (by omega) (by omega)) ?_)
    refine aB_st rfl (by (try simp only [nM, nN]); rfl) (by (try simp only [putB, place, Nat.reduceBEq, if_true, if_false, reduceIte, Nat.reduceAdd, nW]); rfl) ?_
    refine bU 8 rfl (by kernel_rfl) rfl (q_addi rfl rfl (by omega)) ?_
    refine bU 9 rfl (by kernel_rfl) rfl (q_assign rfl) ?_
    refine aB_nil (by kernel_rfl) ?_
    refine blk_n (thn_n ?_)
    refine ⟨[7, 8], [], [0], rfl, ?_⟩
    refine ⟨k + j, ⟨⟨by omega, by omega⟩, ?_⟩, by omega⟩
    rw [Int.natCast_add]; rfl
   ·skip
    have hkN : k = N := by simp at h3; omega
    subst hkN
    rw [show partB k k v = List.replicate k v by simp [partB]]
    refine awp_exit (thn_e (thn_e (blk_hit (thn_n (aSR (aM rfl (aA rfl (aNn (awp_ret ?_)))))))))
    refine fin1 [] [0] rfl Tryz.results31 rfl ?_ (.inr rfl)
    exact ⟨rfl, rfl⟩
end Go.Proofs.YtgmiihmahaahiaaGreatDoor

namespace Go.Proofs.YtgmiihmahaahiaaGreatDoor
open Go.RowKit Go.Lp Go.Sy
open Go.Proofs.Tryz
attribute [local irreducible] aL aB awp aC fwp
def pairSB (P : Program) (kt : TypeId) : Bool := !P.stoodInHeld kt && match P.underlying kt with
 | some (.struct fs) => (match fs.toList with
   | [f, g] => f.name != "_" && g.name != "_" && f.offset == 0 && g.offset == 1 && (match P.underlying f.type with | some .string => true | _ => false) && (match P.underlying g.type with | some .string => true | _ => false)
   | _ => false)
 | _ => false
theorem keyPairS' {P : Program} {kt : TypeId} (h : pairSB P kt = true) : KeyOK P kt kPair := by
 unfold pairSB at h
 rw [Bool.and_eq_true] at h
 obtain ⟨h0, h⟩ := h
 cases hu : P.underlying kt with
 | none => rw [hu] at h; cases h
 | some t =>
   rw [hu] at h
   cases t with
   | struct fs =>
     dsimp only at h
     cases hl : fs.toList with
     | nil => rw [hl] at h; cases h
     | cons f l =>
       rw [hl] at h
       cases l with
       | nil => cases h
       | cons g l =>
         cases l with
         | cons _ _ => cases h
         | nil =>
           simp only [Bool.and_eq_true, bne_iff_ne, beq_iff_eq] at h
           obtain ⟨⟨⟨⟨⟨n1, n2⟩, o1⟩, o2⟩, t1⟩, t2⟩ := h
           have hf : P.fieldsOf kt = fs := by unfold Program.fieldsOf; rw [hu]
           refine keyPairS (f := f) (g := g) (by rw [hf]; exact hu) (by simpa using h0) (by rw [hf]; exact hl) n1 n2 o1 o2 ?_ ?_
           · split at t1
             · assumption
             · cases t1
           · split at t2
             · assumption
             · cases t2
   | _ => cases h
theorem kyK : KeyOK Tryz.prog 157 kPair := keyPairS' (by kernel_rfl)
theorem kyT : KeyOK Tryz.prog 9 kStr := keyStr Tryz.underlying9
def slV {α : Type} (s : Sl α) : Value := .slice s.ad s.l.length s.cap
def keyR (k : RKey) : List D := [.v (.string k.1), .v (.string k.2)]
def chP (kp : List (Sl Bool)) (L : List Dfn) : RKey → Option GCulprit := fun k => (chosenK kp L k).map (·.p)
structure CS where
 mA : RKey → Option (Sl GCulprit)
 mN : ByteArray → Option (Sl RKey)
 fa : GCulprit × Bool
structure CInv (kp : List (Sl Bool)) (L : List Dfn) (st : CS) : Prop where
 all : ∀ k, (getS st.mA k).l = (allK kp L k).map (·.p)
 names : ∀ n, (getS st.mN n).l = namesK kp L n
 tw : twiceK kp L = if st.fa.2 = true then some st.fa.1 else none
abbrev cRes (x : RLink) (a b : Nat) (L : List Dfn) (st : CS) : List Res :=
 [MapR x.ball kPair slV st.mA, Pool 34 2 GCulprit.row st.mA, MapR x.bch kPair GCulprit.val (chP x.kp.l L), MapR x.bnm kStr slV st.mN, Pool 157 2 keyR st.mN, Box a 34 st.fa.1.vs, Box b 4 [.bool st.fa.2]]
theorem getS_put {α β : Type} [DecidableEq α] (m : α → Option (Sl β)) (k a : α) (s : Sl β) : getS (mput m k s) a = if a = k then s else getS m a := by
 unfold getS mput; by_cases h : a = k <;> simp [h]
section
variable {kp : List (Sl Bool)} {L : List Dfn} {d : Dfn} {st : CS}
theorem chP_snoc (hd : defB kp d = true) : chP kp (L ++ [d]) = match chosenK kp L d.key with
   | none => mput (chP kp L) d.key d.p
   | some e => if rankF d < rankF e then mput (chP kp L) d.key d.p else chP kp L := by
 funext k
 unfold chP
 rw [chosenK_snoc]
 by_cases hk : d.key = k
 · subst hk
   rw [if_pos ⟨hd, rfl⟩]
   cases hc : chosenK kp L d.key with
   | none => simp [better, mput]
   | some e =>
     simp only [better]
     split
     · simp [mput]
     · simp [hc]
 · rw [if_neg (fun h => hk h.2)]
   cases hc : chosenK kp L d.key with
   | none => simp [mput, Ne.symm hk]
   | some e =>
     dsimp only
     split
     · simp [mput, Ne.symm hk]
     · rfl
theorem CInv.skip (h : CInv kp L st) (hd : defB kp d = false) : CInv kp (L ++ [d]) st where
 all k := by rw [h.all, allK_snoc, if_neg (by simp [hd]), List.append_nil]
 names n := by rw [h.names, namesK_snoc, if_neg (by simp [hd])]
 tw := by rw [twiceK_snoc, if_neg (by simp [hd]), Option.or_none]; exact h.tw
theorem chP_skip (hd : defB kp d = false) : chP kp (L ++ [d]) = chP kp L := by
 funext k; unfold chP; rw [chosenK_snoc, if_neg (by simp [hd])]
theorem CInv.step (h : CInv kp L st) (hd : defB kp d = true) {s : Sl GCulprit} (hs : s.l = (getS st.mA d.key).l ++ [d.p]) {mN : ByteArray → Option (Sl RKey)} {fa : GCulprit × Bool}
   (hN : ∀ n, (getS mN n).l = if n = d.s.name ∧ allK kp L d.key = [] then (getS st.mN n).l ++ [d.key] else (getS st.mN n).l)
   (hf : fa = if d.s.bind = 1 ∧ ∃ e ∈ allK kp L d.key, e.s.bind = 1 then leastF st.fa d.p else st.fa) (hlt : st.fa.2 = true → ¬ ltC d.p st.fa.1) : CInv kp (L ++ [d]) ⟨mput st.mA d.key s, mN, fa⟩ where
 all k := by
   rw [getS_put, allK_snoc]
   by_cases hk : k = d.key
   · subst hk; rw [if_pos rfl, if_pos ⟨hd, rfl⟩, hs, h.all]; simp
   · rw [if_neg hk, if_neg (fun hh => hk hh.2.symm), List.append_nil, h.all]
 names n := by
   show (getS mN n).l = _
   rw [hN, namesK_snoc, h.names]
   by_cases hn : n = d.s.name ∧ allK kp L d.key = []
   · rw [if_pos hn, if_pos ⟨hd, hn.1.symm, hn.2⟩]
   · rw [if_neg hn, if_neg (fun hh => hn ⟨hh.2.1.symm, hh.2.2⟩)]
 tw := by
   show _ = if fa.2 = true then some fa.1 else none
   rw [twiceK_snoc, h.tw, hf]
   by_cases hc : d.s.bind = 1 ∧ ∃ e ∈ allK kp L d.key, e.s.bind = 1
   · have e1 : (if defB kp d = true ∧ d.s.bind = 1 ∧ (∃ e ∈ allK kp L d.key, e.s.bind = 1) then some d.p else none) = some d.p := if_pos ⟨hd, hc⟩
     rw [e1, if_pos hc]
     unfold leastF
     cases hb : st.fa.2 with
     | false => simp
     | true => simp [hlt hb, hb]
   · have e1 : (if defB kp d = true ∧ d.s.bind = 1 ∧ (∃ e ∈ allK kp L d.key, e.s.bind = 1) then some d.p else none) = none := if_neg fun hh => hc hh.2
     rw [e1, if_neg hc, Option.or_none]
end
theorem twiceK_mem {kp : List (Sl Bool)} {L : List Dfn} {p : GCulprit} (h : twiceK kp L = some p) : ∃ e ∈ L, e.p = p := by
 induction L using snoc_rec with
 | nil => cases h
 | snoc L d ih =>
   rw [twiceK_snoc, Option.or_eq_some_iff] at h
   rcases h with h | ⟨_, h⟩
   · obtain ⟨e, he, hp⟩ := ih h; exact ⟨e, List.mem_append_left _ he, hp⟩
   · split at h
     · exact ⟨d, by simp, Option.some.inj h⟩
     · cases h
theorem CInv.lt {kp : List (Sl Bool)} {L : List Dfn} {d : Dfn} {st : CS} (h : CInv kp L st) (hA : Asc (L ++ [d])) (hb : st.fa.2 = true) : ¬ ltC d.p st.fa.1 := by
 have := h.tw
 rw [if_pos hb] at this
 obtain ⟨e, he, hp⟩ := twiceK_mem this
 rw [← hp]
 exact fun hlt => ltC_irr _ (ltC_trans ((List.pairwise_append.1 hA).2.2 e he d (List.mem_singleton.2 rfl)) hlt)
def chFr (kp : List (Sl Bool)) (L : List Dfn) (d : Dfn) : RKey → Option GCulprit := if allK kp L d.key = [] then mput (chP kp L) d.key d.p else chP kp L
theorem chFr_old {kp : List (Sl Bool)} {L : List Dfn} {d : Dfn} (hb : defB kp d = true) : ∃ old, chFr kp L d d.key = some old.p ∧ (old = d ∨ old ∈ L) ∧ (allK kp L d.key = [] → old = d) ∧ (allK kp L d.key ≠ [] → chosenK kp L d.key = some old) := by
 unfold chFr
 by_cases h : allK kp L d.key = []
 · rw [if_pos h]; exact ⟨d, mput_at _ _ _, .inl rfl, fun _ => rfl, fun h2 => (h2 h).elim⟩
 · rw [if_neg h]
   cases hc : chosenK kp L d.key with
   | none => exact (h (chosenK_none.1 hc)).elim
   | some e => exact ⟨e, by unfold chP; rw [hc]; rfl, .inr (chosenK_mem hc).1, fun h2 => (h h2).elim, fun _ => rfl⟩
theorem chP_next {kp : List (Sl Bool)} {L : List Dfn} {d old : Dfn} (hb : defB kp d = true) (h1 : allK kp L d.key = [] → old = d) (h2 : allK kp L d.key ≠ [] → chosenK kp L d.key = some old) :
   chP kp (L ++ [d]) = if rankF d < rankF old then mput (chFr kp L d) d.key d.p else chFr kp L d := by
 rw [chP_snoc hb]
 unfold chFr
 by_cases h : allK kp L d.key = []
 · rw [if_pos h, chosenK_none.2 h, h1 h, if_neg (Int.lt_irrefl _)]
 · rw [if_neg h, h2 h]
theorem con_coll1 (x : RLink) (hok : RsOk x.objs.l x.kp.l) (lb b2 a b : Nat) (L : List Dfn) (d : Dfn) (hd : InD x.objs.l d) (hlen : L.length < 70) (hpre : ∃ M, flatF x.objs.l = (L ++ [d]) ++ M) (st : CS) (hI : CInv x.kp.l L st) :
   Con Tryz.prog 84 [d.p.val, d.s.val, .pointer (some ⟨b2, 0, none⟩), .pointer (some ⟨a, 0, none⟩), .pointer (some ⟨b, 0, none⟩)] [At b2 0 [.v (.pointer (some ⟨lb, 0, none⟩))], At lb 0 x.row, x.ok] (cRes x a b L st)
     fun _ ps hp => ps = [] ∧ ∃ y, CInv x.kp.l (L ++ [d]) y ∧ hp = cRes x a b (L ++ [d]) y := by
 refine Con.conv (R := fun _ ps hp => ps = [] ∧ ((∃ y, CInv x.kp.l (L ++ [d]) y ∧ hp = cRes x a b (L ++ [d]) y) ∨ ∃ (s : Sl GCulprit) (mN : ByteArray → Option (Sl RKey)) (fa : GCulprit × Bool) (v : Value) (rows : List (List D)), CInv x.kp.l (L ++ [d]) ⟨mput st.mA d.key s, mN, fa⟩ ∧ v = s.val ∧ rows = s.l.map GCulprit.row ∧
   hp = [MapR x.ball kPair slV (mput st.mA d.key s), Pool 34 2 GCulprit.row (mdel st.mA d.key), MapR x.bch kPair GCulprit.val (chP x.kp.l (L ++ [d])), MapR x.bnm kStr slV mN, Pool 157 2 keyR mN, Box a 34 fa.1.vs, Box b 4 [.bool fa.2], OwnS v 34 2 rows])) ?_ fun _ ps' hp' ⟨h1, h⟩ => ?_
 rotate_left
 · subst h1
   rcases h with h | ⟨s, mN, fa, v, rows, hc, hv, hr, rfl⟩
   · exact ⟨_, _, .refl, rfl, h⟩
   · refine ⟨_, _, (StE.put (row := GCulprit.row) 1 7 d.key s rfl rfl hv hr (mdel_self _ _) rfl).trans (StE.keep [] [0, 1, 2, 3, 4, 5, 6] rfl), rfl, ⟨mput st.mA d.key s, mN, fa⟩, hc, ?_⟩
     rw [mput_del]; rfl
 have hA : Asc (L ++ [d]) := by
   obtain ⟨M, hM⟩ := hpre
   have := flatTo_asc x.objs.l x.objs.l.length
   rw [show flatTo x.objs.l x.objs.l.length = flatF x.objs.l from rfl, hM] at this
   exact (List.pairwise_append.1 this).1
 have hmem : ∀ e, e = d ∨ e ∈ L → InD x.objs.l e := fun e he => by
   rw [← inD_iff]
   obtain ⟨M, hM⟩ := hpre
   rw [hM]
   rcases he with rfl | he <;> simp [*]
 have hlA : ((st.mA d.key).getD ⟨none, 0, []⟩).l.length = (allK x.kp.l L d.key).length := by
   have := congrArg List.length (hI.all d.key)
   rw [List.length_map] at this; exact this
 have hlN : ((st.mN d.s.name).getD ⟨none, 0, []⟩).l.length ≤ 70 := by
   have := congrArg List.length (hI.names d.s.name)
   have h2 := namesK_le (kp := x.kp.l) L d.s.name
   have h3 : ((st.mN d.s.name).getD ⟨none, 0, []⟩).l.length = (namesK x.kp.l L d.s.name).length := this
   omega
 have hlA2 : ((st.mA d.key).getD ⟨none, 0, []⟩).l.length ≤ 70 := by
   have h2 := allK_le (kp := x.kp.l) L d.key
   omega
 refine Con.enter Tryz.func84 rfl (by simp [Tryz.ntmps84]) ?_
 show awp _ _ _ _ ⟨[(0, true, _), (1, true, _), (2, true, _), (3, true, _), (4, true, _)], _, _⟩
 refine aSR ?_
 refine aL_eff (q := true) rfl (x_box rfl rfl rfl (fun b0_0 => ?_))
 refine aL_hp (by (try simp only [nM, nN]); rfl) ?_
 refine aL_eff (q := true) rfl (x_box rfl rfl rfl (fun b0_1 => ?_))
 refine aL_hp (by (try simp only [nM, nN]); rfl) ?_
 refine aNs (aSR (aU rfl (q_loadDE (o := 0) tk101 rfl (.of (psAt 0 rfl)) rfl) (aU rfl (q_load 7 tk34 rfl rfl rfl) (aU rfl (q_load 8 tk63 rfl rfl rfl) ?_))))
 refine aU rfl (q_call (by kernel_rfl) rfl (fun w S fp hst => (con_defines x hok lb d hd).quiet2 (psAt 1 rfl) (psAt 2 rfl) hst)) ?_
 refine aU rfl (q_not rfl) (aNn ?_)
 refine awp_cond _ rfl (fun h1 => ?_) (fun h1 => ?_)
 ·skip
  have hdef : defB x.kp.l d = false := by simpa using h1
  refine awp_ret (thn_r ?_)
  rw [← chP_skip (L := L) (d := d) hdef]
  refine fin0 [] [0, 1, 2, 3, 4, 5, 6] rfl Tryz.results84 ?_ (.inr rfl)
  exact ⟨rfl, .inl ⟨st, hI.skip hdef, rfl⟩⟩
 ·skip
  have hdef : defB x.kp.l d = true := by simpa using h1
  obtain ⟨old, hold, holdm, holdf, holdc⟩ := chFr_old (L := L) hdef
  refine awp_skip (thn_n (aSR ?_))
  refine aU rfl (q_fieldAddr (off := 0) (by kernel_rfl) rfl) ?_
  refine aU rfl (q_load 8 tk9 rfl rfl rfl) ?_
  refine aU rfl (q_fieldAddr (off := 1) (by kernel_rfl) rfl) ?_
  refine aU rfl (q_load 8 tk9 rfl rfl rfl) ?_
  refine aU rfl (q_bld (l := [(0, .tmp 15), (1, .tmp 17)]) (zs := [.string .empty, .string .empty]) (pl := [(0, 1), (1, 1)]) (by kernel_rfl) (by kernel_rfl) (by kernel_rfl) rfl rfl rfl) ?_
  refine aL_eff (q := true) rfl (x_alloc (zs := [.string .empty, .string .empty]) (by kernel_rfl) rfl (fun b2_5 => ?_))
  refine aL_hp (by (try simp only [nM, nN]); rfl) ?_
  refine aL_eff rfl (x_store 9 tk157 rfl rfl rfl rfl ?_)
  refine aL_hp (by (try simp only [nK, nL]); rfl) ?_
  refine aNs ?_
  refine awp_join (X := { mN : ByteArray → Option (Sl RKey) // ∀ n, (getS mN n).l = if n = d.s.name ∧ allK x.kp.l L d.key = [] then (getS st.mN n).l ++ [d.key] else (getS st.mN n).l }) (fun q => ⟨[(2, true, .pointer (some ⟨b2, 0, none⟩)), (3, true, .pointer (some ⟨a, 0, none⟩)), (4, true, .pointer (some ⟨b, 0, none⟩)), (5, true, .pointer (some ⟨b0_0, 0, none⟩)), (6, true, .pointer (some ⟨b0_1, 0, none⟩)), (7, true, .pointer (some ⟨b2_5, 0, none⟩))], [At b2 0 [.v (.pointer (some ⟨lb, 0, none⟩))], At lb 0 x.row, x.ok], [MapR x.ball kPair slV st.mA, Pool 34 2 GCulprit.row st.mA, MapR x.bch kPair GCulprit.val (chFr x.kp.l L d), MapR x.bnm kStr slV q.1, Pool 157 2 keyR q.1, Box a 34 st.fa.1.vs, Box b 4 [.bool st.fa.2], Box b0_0 34 d.p.vs, Box b0_1 63 d.s.vs, Box b2_5 157 [.string d.s.name, .string d.s.version]]⟩) ?_ ?_
  ·skip
   refine awp_seq ?_
   refine awp_drawn [] (by kernel_rfl) ?_
   show aB _ _ _ _ _ 8 #[false, false, false, false, false, false, false, false] _
   refine bU 0 rfl (by kernel_rfl) rfl (q_loadDE (o := 0) tk101 rfl (.of (psAt 0 rfl)) rfl) ?_
   refine bU 1 rfl (by kernel_rfl) rfl (q_nilCheck rfl) ?_
   refine bU 2 rfl (by kernel_rfl) rfl (q_fieldAddr (off := 5) (by kernel_rfl) rfl) ?_
   refine bU 3 rfl (by kernel_rfl) rfl (q_loadDE (o := 5) tk102 rfl (.of (psAt 1 rfl)) rfl) ?_
   refine bU 4 rfl (by kernel_rfl) rfl (q_load 9 tk157 rfl rfl rfl) ?_
   refine bU 5 rfl (by kernel_rfl) rfl (q_look (k := d.key) (v0 := (⟨none, 0, []⟩ : Sl GCulprit)) 0 Tryz.underlying102 (kyK) (by kernel_rfl) rfl rfl rfl) ?_
   refine bU 6 rfl (by kernel_rfl) rfl (q_lenS Tryz.underlying158 rfl) ?_
   refine bU 7 rfl (by kernel_rfl) rfl (q_eql rfl rfl) ?_
   refine aB_nil (by kernel_rfl) ?_
   refine thn_n ?_
   refine awp_cond _ rfl (fun h2 => ?_) (fun h2 => ?_)
   ·skip
    have hfr : allK x.kp.l L d.key = [] := by
      have h2' : (((st.mA d.key).getD ⟨none, 0, []⟩).l.length : Int) = 0 := of_decide_eq_true h2
      rw [hlA] at h2'
      exact List.eq_nil_of_length_eq_zero (by omega)
    have hnew : ∀ s : Sl RKey, s.l = (getS st.mN d.s.name).l ++ [d.key] → ∀ n, (getS (mput st.mN d.s.name s) n).l = if n = d.s.name ∧ allK x.kp.l L d.key = [] then (getS st.mN n).l ++ [d.key] else (getS st.mN n).l := fun s hs n => by
      rw [getS_put]
      by_cases hn : n = d.s.name
      · subst hn; rw [if_pos rfl, if_pos ⟨rfl, hfr⟩, hs]
      · rw [if_neg hn, if_neg (fun hh => hn hh.1)]
    have hch : mput (chP x.kp.l L) d.key d.p = chFr x.kp.l L d := by unfold chFr; rw [if_pos hfr]
    refine awp_seq (awp_take 4 d.s.name rfl ?_)
    refine awp_drawnC [15, 16] [] [b0_1] (by kernel_rfl) ?_
    show aC _ _ _ _ _ _ _ 17 #[false, false, false, false, false, false, false, false, false, false, false, false, false, false, false, false, false] _
    refine aC_f 0 rfl (by kernel_rfl) true rfl rfl (fun _ => q_loadDE (o := 0) tk101 rfl (.of (psAt 0 rfl)) rfl) ?_
    refine aC_f 1 rfl (by kernel_rfl) true rfl rfl (fun _ => q_nilCheck rfl) ?_
    refine aC_f 2 rfl (by kernel_rfl) true rfl rfl (fun _ => q_fieldAddr (off := 7) (by kernel_rfl) rfl) ?_
    refine aC_f 3 rfl (by kernel_rfl) true rfl rfl (fun _ => q_loadDE (o := 7) tk104 rfl (.of (psAt 1 rfl)) rfl) ?_
    refine aC_f 4 rfl (by kernel_rfl) true rfl rfl (fun _ => q_fieldAddr (off := 0) (by kernel_rfl) rfl) ?_
    refine aC_box 5 8 rfl (by kernel_rfl) true rfl rfl (by simp) tk9 (fun _ => rfl) rfl rfl ?_
    refine aC_f 6 rfl (by kernel_rfl) true rfl rfl (fun _ => q_loadDE (o := 0) tk101 rfl (.of (psAt 0 rfl)) rfl) ?_
    refine aC_f 7 rfl (by kernel_rfl) true rfl rfl (fun _ => q_nilCheck rfl) ?_
    refine aC_f 8 rfl (by kernel_rfl) true rfl rfl (fun _ => q_fieldAddr (off := 7) (by kernel_rfl) rfl) ?_
    refine aC_f 9 rfl (by kernel_rfl) true rfl rfl (fun _ => q_loadDE (o := 7) tk104 rfl (.of (psAt 1 rfl)) rfl) ?_
    refine aC_f 10 rfl (by kernel_rfl) true rfl rfl (fun _ => q_fieldAddr (off := 0) (by kernel_rfl) rfl) ?_
    refine aC_box 11 8 rfl (by kernel_rfl) true rfl rfl (by simp) tk9 (fun _ => rfl) rfl rfl ?_
    refine aC_q 12 rfl (by kernel_rfl) true rfl rfl (fun _ => q_look (k := d.s.name) (v0 := (⟨none, 0, []⟩ : Sl RKey)) 3 Tryz.underlying104 (kyT) (by kernel_rfl) rfl rfl rfl) ?_
    refine aC_q 13 rfl (by kernel_rfl) true rfl rfl (fun _ => q_load 9 tk157 rfl rfl rfl) ?_
    refine aC_arms 14 [] (by kernel_rfl) (arms_cons ?_ arms_nil)
    refine aC_arm 14 rfl rfl (Eff.x ?_)
    refine id (w_lit (zs := [.string .empty, .string .empty]) (l := [(0, .tmp 40)]) el159 (by kernel_rfl) (by decide) (by decide) (by decide) rfl rfl rfl (.more rfl (.v rfl (.v rfl .nil)) .nil) rfl rfl (fun v4_14 => ?_))
    refine aC_st (by (try simp only [nO, nK, nL]); rfl) (by (try simp only [nM, nN]); rfl) (by (try simp only [keepH, nQ, nR, putB, place, Nat.reduceBEq, if_true, if_false, reduceIte, Nat.reduceAdd, nW]); rfl) ?_
    refine aC_arms 15 [] (by kernel_rfl) (arms_cons ?_ arms_nil)
    refine aC_arm 15 rfl rfl (Eff.framed (q := false) [10, 11] rfl rfl (zcons 8 rfl rfl znil) ?_)
    refine id (w_append 0 el159 rfl rfl rfl rfl (w_srcO 1 el159 rfl (by simp)) (by first | assumption | simp) (by show ((getS st.mN d.s.name).l.map keyR).length + 1 ≤ _; rw [List.length_map]; exact Nat.le_trans (Nat.add_le_add_right hlN 1) (by decide)) (((getS st.mN d.s.name).l ++ [d.key]).length) (by show ((getS st.mN d.s.name).l.map keyR).length + 1 = _; rw [List.length_map, List.length_append]; rfl) (fun v4_15 c4_15 => ?_))
    refine fr_mk ?_
    refine aC_st (by (try simp only [nO, nK, nL]); rfl) (by (try simp only [nM, nN]); rfl) (by (try simp only [keepH, nQ, nR, putB, place, Nat.reduceBEq, if_true, if_false, reduceIte, Nat.reduceAdd, nW]); rfl) ?_
    refine aC_arms 16 [] (by kernel_rfl) (arms_cons ?_ arms_nil)
    refine aC_arm 16 rfl rfl (Eff.framed (q := false) [3] rfl rfl (zcons 8 rfl rfl znil) ?_)
    refine id (e_mapUpdate (k := d.s.name) (v := (⟨v4_15, c4_15, (getS st.mN d.s.name).l ++ [d.key]⟩ : Sl RKey)) 0 Tryz.underlying104 (kyT) rfl rfl rfl rfl ?_)
    refine fr_mk ?_
    refine aC_st (by (try simp only [nO, nK, nL]); rfl) (by (try simp only [nM, nN]); rfl) (by (try simp only [keepH, nQ, nR, putB, place, Nat.reduceBEq, if_true, if_false, reduceIte, Nat.reduceAdd, nW]); rfl) ?_
    refine aC_nil (by kernel_rfl) ?_
    refine thn_n ?_
    refine awp_put (row := keyR) 4 10 d.s.name (⟨v4_15, c4_15, (getS st.mN d.s.name).l ++ [d.key]⟩ : Sl RKey) rfl rfl rfl (by first | (rw [List.map_append]; done) | (rw [List.map_append]; rfl)) (mdel_self _ _) rfl ?_
    rw [mput_del]
    refine awp_drawn [6] (by kernel_rfl) ?_
    show aB _ _ _ _ _ 7 #[false, false, false, false, false, false, false] _
    refine bU 0 rfl (by kernel_rfl) rfl (q_loadDE (o := 0) tk101 rfl (.of (psAt 0 rfl)) rfl) ?_
    refine bU 1 rfl (by kernel_rfl) rfl (q_nilCheck rfl) ?_
    refine bU 2 rfl (by kernel_rfl) rfl (q_fieldAddr (off := 6) (by kernel_rfl) rfl) ?_
    refine bU 3 rfl (by kernel_rfl) rfl (q_loadDE (o := 6) tk103 rfl (.of (psAt 1 rfl)) rfl) ?_
    refine bU 4 rfl (by kernel_rfl) rfl (q_load 9 tk157 rfl rfl rfl) ?_
    refine bU 5 rfl (by kernel_rfl) rfl (q_load 7 tk34 rfl rfl rfl) ?_
    refine aB_eff 6 rfl (by kernel_rfl) rfl rfl (e_mapUpdate (k := d.key) (v := d.p) 2 Tryz.underlying103 (kyK) rfl rfl rfl rfl ?_)
    refine aB_st rfl (by (try simp only [nM, nN]); rfl) (by (try simp only [putB, place, Nat.reduceBEq, if_true, if_false, reduceIte, Nat.reduceAdd, nW]); rfl) ?_
    refine aB_nil (by kernel_rfl) ?_
    rw [hch]
    refine thn_n ?_
    first
    | exact ⟨[2, 3, 4, 5, 6, 7], [2, 1, 0], [0, 1, 2, 3, 4, 5, 6, 7, 8, 9], ⟨mput st.mN d.s.name (⟨v4_15, c4_15, (getS st.mN d.s.name).l ++ [d.key]⟩ : Sl RKey), hnew _ rfl⟩, rfl, rfl⟩
    | exact ⟨[2, 3, 4, 5, 6, 7], [2, 1, 0], [0, 1, 2, 3, 4, 5, 6, 7, 8, 9], ⟨st.mN, by assumption⟩, rfl, rfl⟩
   ·skip
    have hfr : allK x.kp.l L d.key ≠ [] := by
      intro h0
      have h2' : ¬ (((st.mA d.key).getD ⟨none, 0, []⟩).l.length : Int) = 0 := of_decide_eq_false h2
      rw [hlA, h0] at h2'
      exact h2' rfl
    have hsame : ∀ n, (getS st.mN n).l = if n = d.s.name ∧ allK x.kp.l L d.key = [] then (getS st.mN n).l ++ [d.key] else (getS st.mN n).l := fun n => by rw [if_neg (fun hh => hfr hh.2)]
    rw [show chP x.kp.l L = chFr x.kp.l L d by unfold chFr; rw [if_neg hfr]]
    refine awp_skip (thn_n ?_)
    first
    | exact ⟨[2, 3, 4, 5, 6, 7], [2, 1, 0], [0, 1, 2, 3, 4, 5, 6, 7, 8, 9], ⟨mput st.mN d.s.name (⟨v4_15, c4_15, (getS st.mN d.s.name).l ++ [d.key]⟩ : Sl RKey), hnew _ rfl⟩, rfl, rfl⟩
    | exact ⟨[2, 3, 4, 5, 6, 7], [2, 1, 0], [0, 1, 2, 3, 4, 5, 6, 7, 8, 9], ⟨st.mN, by assumption⟩, rfl, rfl⟩
  ·skip
   rintro ⟨mN, hmN⟩
   dsimp only
   refine awp_seq ?_
   refine awp_drawn [9] (by kernel_rfl) ?_
   show aB _ _ _ _ _ 10 #[false, false, false, false, false, false, false, false, false, false] _
   refine bU 0 rfl (by kernel_rfl) rfl (q_loadDE (o := 0) tk101 rfl (.of (psAt 0 rfl)) rfl) ?_
   refine bU 1 rfl (by kernel_rfl) rfl (q_loadDE (o := 0) tk101 rfl (.of (psAt 0 rfl)) rfl) ?_
   refine bU 2 rfl (by kernel_rfl) rfl (q_nilCheck rfl) ?_
   refine bU 3 rfl (by kernel_rfl) rfl (q_fieldAddr (off := 6) (by kernel_rfl) rfl) ?_
   refine bU 4 rfl (by kernel_rfl) rfl (q_loadDE (o := 6) tk103 rfl (.of (psAt 1 rfl)) rfl) ?_
   refine bU 5 rfl (by kernel_rfl) rfl (q_load 9 tk157 rfl rfl rfl) ?_
   refine bU 6 rfl (by kernel_rfl) rfl ((q_look (k := d.key) (v0 := (⟨0, 0⟩ : GCulprit)) 2 Tryz.underlying103 (kyK) (by kernel_rfl) rfl rfl rfl).castV (v' := GCulprit.val old.p) (congrArg GCulprit.val (by rw [hold]; rfl))) ?_
   refine bU 7 rfl (by kernel_rfl) rfl (q_call (by kernel_rfl) rfl (fun w S fp hst => (con_sym x lb old (hmem old holdm)).quiet2 (psAt 1 rfl) (psAt 2 rfl) hst)) ?_
   refine aB_eff (q := true) 8 rfl (by kernel_rfl) rfl rfl (x_alloc (zs := [.string .empty, .string .empty, .bool false, .int .i64 0, .int .i64 0, .int .i64 0, .int .i64 0, .int .i64 0, .int .i64 0, .int .i64 0]) (by kernel_rfl) rfl (fun b6_8 => ?_))
   refine aB_st rfl (by (try simp only [nM, nN]); rfl) (by (try simp only [putB, place, Nat.reduceBEq, if_true, if_false, reduceIte, Nat.reduceAdd, nW]); rfl) ?_
   refine aB_eff 9 rfl (by kernel_rfl) rfl rfl (x_store 10 tk63 rfl rfl rfl rfl ?_)
   refine aB_st rfl (by (try simp only [nM, nN]); rfl) (by (try simp only [putB, place, Nat.reduceBEq, if_true, if_false, reduceIte, Nat.reduceAdd, nW]); rfl) ?_
   refine aB_nil (by kernel_rfl) ?_
   refine thn_n (awp_seq (awp_seq ?_))
   refine awp_drawn [] (by kernel_rfl) ?_
   show aB _ _ _ _ _ 18 #[false, false, false, false, false, false, false, false, false, false, false, false, false, false, false, false, false, false] _
   refine bU 0 rfl (by kernel_rfl) rfl (q_loadDE (o := 0) tk101 rfl (.of (psAt 0 rfl)) rfl) ?_
   refine bU 1 rfl (by kernel_rfl) rfl (q_nilCheck rfl) ?_
   refine bU 2 rfl (by kernel_rfl) rfl (q_fieldAddr (off := 5) (by kernel_rfl) rfl) ?_
   refine bU 3 rfl (by kernel_rfl) rfl (q_loadDE (o := 5) tk102 rfl (.of (psAt 1 rfl)) rfl) ?_
   refine bU 4 rfl (by kernel_rfl) rfl (q_load 9 tk157 rfl rfl rfl) ?_
   refine bU 5 rfl (by kernel_rfl) rfl (q_look (k := d.key) (v0 := (⟨none, 0, []⟩ : Sl GCulprit)) 0 Tryz.underlying102 (kyK) (by kernel_rfl) rfl rfl rfl) ?_
   refine bU 6 rfl (by kernel_rfl) rfl (q_lenS Tryz.underlying158 rfl) ?_
   refine bU 7 rfl (by kernel_rfl) rfl (q_gtr rfl rfl) ?_
   refine bU 8 rfl (by kernel_rfl) rfl (q_move rfl) ?_
   refine bG 9 rfl (by kernel_rfl) rfl rfl (fun hc => q_fieldAddr (off := 3) (by kernel_rfl) rfl) ?_
   refine bG 10 rfl (by kernel_rfl) rfl rfl (fun hc => q_load 8 tk3 (ev_yes rfl hc) rfl rfl) ?_
   refine bG 11 rfl (by kernel_rfl) rfl rfl (fun hc => q_eql (ev_yes rfl hc) rfl) ?_
   refine bU 12 rfl (by kernel_rfl) rfl (q_and rfl rfl (fun h => gt rfl h)) ?_
   refine bU 13 rfl (by kernel_rfl) rfl (q_move rfl) ?_
   refine bG 14 rfl (by kernel_rfl) rfl rfl (fun hc => q_fieldAddr (off := 3) (by kernel_rfl) rfl) ?_
   refine bG 15 rfl (by kernel_rfl) rfl rfl (fun hc => q_load 10 tk3 (ev_yes rfl hc) rfl rfl) ?_
   refine bG 16 rfl (by kernel_rfl) rfl rfl (fun hc => q_eql (ev_yes rfl hc) rfl) ?_
   refine bU 17 rfl (by kernel_rfl) rfl (q_and rfl rfl (fun h => gt rfl h)) ?_
   refine aB_nil (by kernel_rfl) ?_
   refine thn_n ?_
   refine awp_cond _ rfl (fun h3 => ?_) (fun h3 => ?_)
   ·skip
    have hfa : leastF st.fa d.p = if d.s.bind = 1 ∧ ∃ e ∈ allK x.kp.l L d.key, e.s.bind = 1 then leastF st.fa d.p else st.fa := by
      simp only [Bool.and_eq_true, decide_eq_true_eq] at h3
      rw [hlA] at h3
      have hne : allK x.kp.l L d.key ≠ [] := fun h0 => by rw [h0] at h3; simp at h3
      obtain ⟨m1, m2, m3⟩ := chosenK_mem (holdc hne)
      rw [if_pos ⟨h3.1.2, old, mem_allK.2 ⟨m1, m2, m3⟩, h3.2⟩]
    refine awp_region (aU rfl (q_load 7 tk34 rfl rfl rfl) ?_)
    refine aL_eff (q := false) rfl (e_call [] [5, 6] (by kernel_rfl) rfl rfl rfl rfl (con_least a b st.fa d.p) ?_)
    rintro _ _ _ ⟨rfl, rfl⟩
    refine aL_st (by (try simp only [nM, nN]); rfl) (by (try simp only [putB, place, Nat.reduceBEq, if_true, if_false, reduceIte, Nat.reduceAdd, nW]); rfl) ?_
    refine aNs (awp_seq ?_)
    refine awp_drawn [] (by kernel_rfl) ?_
    show aB _ _ _ _ _ 5 #[false, false, false, false, false] _
    refine bU 0 rfl (by kernel_rfl) rfl (q_load 8 tk63 rfl rfl rfl) ?_
    refine bU 1 rfl (by kernel_rfl) rfl (q_call (by kernel_rfl) rfl (fun w S fp hst => (con_rank _).quiet0 hst)) ?_
    refine bU 2 rfl (by kernel_rfl) rfl (q_load 10 tk63 rfl rfl rfl) ?_
    refine bU 3 rfl (by kernel_rfl) rfl (q_call (by kernel_rfl) rfl (fun w S fp hst => (con_rank _).quiet0 hst)) ?_
    refine bU 4 rfl (by kernel_rfl) rfl (q_lss rfl rfl) ?_
    refine aB_nil (by kernel_rfl) ?_
    refine thn_n ?_
    refine awp_cond _ rfl (fun h4 => ?_) (fun h4 => ?_)
    ·skip
     have hcs : mput (chFr x.kp.l L d) d.key d.p = chP x.kp.l (L ++ [d]) := by rw [chP_next hdef holdf holdc, if_pos (show rankF d < rankF old from of_decide_eq_true h4)]
     refine awp_drawn [6] (by kernel_rfl) ?_
     show aB _ _ _ _ _ 7 #[false, false, false, false, false, false, false] _
     refine bU 0 rfl (by kernel_rfl) rfl (q_loadDE (o := 0) tk101 rfl (.of (psAt 0 rfl)) rfl) ?_
     refine bU 1 rfl (by kernel_rfl) rfl (q_nilCheck rfl) ?_
     refine bU 2 rfl (by kernel_rfl) rfl (q_fieldAddr (off := 6) (by kernel_rfl) rfl) ?_
     refine bU 3 rfl (by kernel_rfl) rfl (q_loadDE (o := 6) tk103 rfl (.of (psAt 1 rfl)) rfl) ?_
     refine bU 4 rfl (by kernel_rfl) rfl (q_load 9 tk157 rfl rfl rfl) ?_
     refine bU 5 rfl (by kernel_rfl) rfl (q_load 7 tk34 rfl rfl rfl) ?_
     refine aB_eff 6 rfl (by kernel_rfl) rfl rfl (e_mapUpdate (k := d.key) (v := d.p) 2 Tryz.underlying103 (kyK) rfl rfl rfl rfl ?_)
     refine aB_st rfl (by (try simp only [nM, nN]); rfl) (by (try simp only [putB, place, Nat.reduceBEq, if_true, if_false, reduceIte, Nat.reduceAdd, nW]); rfl) ?_
     refine aB_nil (by kernel_rfl) ?_
     refine thn_n (awp_take 1 d.key rfl ?_)
     refine awp_drawn [7, 9, 11] (by kernel_rfl) ?_
     show aB _ _ _ _ _ 12 #[false, false, false, false, false, false, false, false, false, false, false, false] _
     refine bU 0 rfl (by kernel_rfl) rfl (q_loadDE (o := 0) tk101 rfl (.of (psAt 0 rfl)) rfl) ?_
     refine bU 1 rfl (by kernel_rfl) rfl (q_nilCheck rfl) ?_
     refine bU 2 rfl (by kernel_rfl) rfl (q_fieldAddr (off := 5) (by kernel_rfl) rfl) ?_
     refine bU 3 rfl (by kernel_rfl) rfl (q_loadDE (o := 5) tk102 rfl (.of (psAt 1 rfl)) rfl) ?_
     refine bU 4 rfl (by kernel_rfl) rfl (q_load 9 tk157 rfl rfl rfl) ?_
     refine bU 5 rfl (by kernel_rfl) rfl (q_load 7 tk34 rfl rfl rfl) ?_
     refine aB_eff (q := true) 6 rfl (by kernel_rfl) rfl rfl (w_lit (zs := [.int .i64 0, .int .i64 0]) (l := [(0, .tmp 94)]) el158 (by kernel_rfl) (by decide) (by decide) (by decide) rfl rfl rfl (.more rfl (.v rfl (.v rfl .nil)) .nil) rfl rfl (fun v11_6 => ?_))
     refine aB_st rfl (by (try simp only [nM, nN]); rfl) (by (try simp only [putB, place, Nat.reduceBEq, if_true, if_false, reduceIte, Nat.reduceAdd, nW]); rfl) ?_
     refine aB_eff 7 rfl (by kernel_rfl) rfl rfl (e_mapEntry (k := d.key) (v0 := (⟨none, 0, []⟩ : Sl GCulprit)) 0 Tryz.underlying102 (kyK) (by kernel_rfl) rfl rfl rfl rfl (fun z11_7 => ?_))
     refine aB_st rfl (by (try simp only [nM, nN]); rfl) (by (try simp only [putB, place, Nat.reduceBEq, if_true, if_false, reduceIte, Nat.reduceAdd, nW]); rfl) ?_
     refine bU 8 rfl (by kernel_rfl) rfl (q_extract rfl rfl) ?_
     refine aB_p 10 rfl (by kernel_rfl) true rfl rfl (fun _ => q_extract rfl rfl) ?_
     refine aB_eff 9 rfl (by kernel_rfl) rfl rfl (w_append 11 el158 rfl rfl rfl rfl (w_srcO 12 el158 rfl (by simp)) (by first | assumption | simp) (by show ((getS st.mA d.key).l.map GCulprit.row).length + 1 ≤ _; rw [List.length_map]; exact Nat.le_trans (Nat.add_le_add_right hlA2 1) (by decide)) (((getS st.mA d.key).l ++ [d.p]).length) (by show ((getS st.mA d.key).l.map GCulprit.row).length + 1 = _; rw [List.length_map, List.length_append]; rfl) (fun v11_9 c11_9 => ?_))
     refine aB_st rfl (by (try simp only [nM, nN]); rfl) (by (try simp only [putB, place, Nat.reduceBEq, if_true, if_false, reduceIte, Nat.reduceAdd, nW]); rfl) ?_
     refine aB_eff 11 rfl (by kernel_rfl) rfl rfl (e_entryStore (k := d.key) (v := (⟨v11_9, c11_9, (getS st.mA d.key).l ++ [d.p]⟩ : Sl GCulprit)) 0 (kyK) rfl rfl rfl rfl ?_)
     refine aB_st rfl (by (try simp only [nM, nN]); rfl) (by (try simp only [putB, place, Nat.reduceBEq, if_true, if_false, reduceIte, Nat.reduceAdd, nW]); rfl) ?_
     refine aB_nil (by kernel_rfl) ?_
     rw [hcs, mput_mput]
     refine fin0 [] [0, 1, 2, 3, 4, 5, 6, 11] rfl Tryz.results84 ?_ (.inl rfl)
     exact ⟨rfl, .inr ⟨⟨v11_9, c11_9, (getS st.mA d.key).l ++ [d.p]⟩, mN, _, _, _, hI.step hdef rfl hmN hfa (hI.lt hA), rfl, (by rw [List.map_append]; rfl), rfl⟩⟩
    ·skip
     have hcs : chFr x.kp.l L d = chP x.kp.l (L ++ [d]) := by rw [chP_next hdef holdf holdc, if_neg (show ¬ rankF d < rankF old from of_decide_eq_false h4)]
     refine awp_skip (thn_n (awp_take 1 d.key rfl ?_))
     refine awp_drawn [7, 9, 11] (by kernel_rfl) ?_
     show aB _ _ _ _ _ 12 #[false, false, false, false, false, false, false, false, false, false, false, false] _
     refine bU 0 rfl (by kernel_rfl) rfl (q_loadDE (o := 0) tk101 rfl (.of (psAt 0 rfl)) rfl) ?_
     refine bU 1 rfl (by kernel_rfl) rfl (q_nilCheck rfl) ?_
     refine bU 2 rfl (by kernel_rfl) rfl (q_fieldAddr (off := 5) (by kernel_rfl) rfl) ?_
     refine bU 3 rfl (by kernel_rfl) rfl (q_loadDE (o := 5) tk102 rfl (.of (psAt 1 rfl)) rfl) ?_
     refine bU 4 rfl (by kernel_rfl) rfl (q_load 9 tk157 rfl rfl rfl) ?_
     refine bU 5 rfl (by kernel_rfl) rfl (q_load 7 tk34 rfl rfl rfl) ?_
     refine aB_eff (q := true) 6 rfl (by kernel_rfl) rfl rfl (w_lit (zs := [.int .i64 0, .int .i64 0]) (l := [(0, .tmp 94)]) el158 (by kernel_rfl) (by decide) (by decide) (by decide) rfl rfl rfl (.more rfl (.v rfl (.v rfl .nil)) .nil) rfl rfl (fun v11_6 => ?_))
     refine aB_st rfl (by (try simp only [nM, nN]); rfl) (by (try simp only [putB, place, Nat.reduceBEq, if_true, if_false, reduceIte, Nat.reduceAdd, nW]); rfl) ?_
     refine aB_eff 7 rfl (by kernel_rfl) rfl rfl (e_mapEntry (k := d.key) (v0 := (⟨none, 0, []⟩ : Sl GCulprit)) 0 Tryz.underlying102 (kyK) (by kernel_rfl) rfl rfl rfl rfl (fun z11_7 => ?_))
     refine aB_st rfl (by (try simp only [nM, nN]); rfl) (by (try simp only [putB, place, Nat.reduceBEq, if_true, if_false, reduceIte, Nat.reduceAdd, nW]); rfl) ?_
     refine bU 8 rfl (by kernel_rfl) rfl (q_extract rfl rfl) ?_
     refine aB_p 10 rfl (by kernel_rfl) true rfl rfl (fun _ => q_extract rfl rfl) ?_
     refine aB_eff 9 rfl (by kernel_rfl) rfl rfl (w_append 11 el158 rfl rfl rfl rfl (w_srcO 12 el158 rfl (by simp)) (by first | assumption | simp) (by show ((getS st.mA d.key).l.map GCulprit.row).length + 1 ≤ _; rw [List.length_map]; exact Nat.le_trans (Nat.add_le_add_right hlA2 1) (by decide)) (((getS st.mA d.key).l ++ [d.p]).length) (by show ((getS st.mA d.key).l.map GCulprit.row).length + 1 = _; rw [List.length_map, List.length_append]; rfl) (fun v11_9 c11_9 => ?_))
     refine aB_st rfl (by (try simp only [nM, nN]); rfl) (by (try simp only [putB, place, Nat.reduceBEq, if_true, if_false, reduceIte, Nat.reduceAdd, nW]); rfl) ?_
     refine aB_eff 11 rfl (by kernel_rfl) rfl rfl (e_entryStore (k := d.key) (v := (⟨v11_9, c11_9, (getS st.mA d.key).l ++ [d.p]⟩ : Sl GCulprit)) 0 (kyK) rfl rfl rfl rfl ?_)
     refine aB_st rfl (by (try simp only [nM, nN]); rfl) (by (try simp only [putB, place, Nat.reduceBEq, if_true, if_false, reduceIte, Nat.reduceAdd, nW]); rfl) ?_
     refine aB_nil (by kernel_rfl) ?_
     rw [hcs, mput_mput]
     refine fin0 [] [0, 1, 2, 3, 4, 5, 6, 11] rfl Tryz.results84 ?_ (.inl rfl)
     exact ⟨rfl, .inr ⟨⟨v11_9, c11_9, (getS st.mA d.key).l ++ [d.p]⟩, mN, _, _, _, hI.step hdef rfl hmN hfa (hI.lt hA), rfl, (by rw [List.map_append]; rfl), rfl⟩⟩
   ·skip
    have hfa : st.fa = if d.s.bind = 1 ∧ ∃ e ∈ allK x.kp.l L d.key, e.s.bind = 1 then leastF st.fa d.p else st.fa := by
      rw [if_neg]
      rintro ⟨g1, e, he, g2⟩
      have hne : allK x.kp.l L d.key ≠ [] := fun h0 => by rw [h0] at he; cases he
      have hr := chosenK_rank (holdc hne) e he
      have ho : old.s.bind = 1 := by
        unfold rankF at hr
        rw [if_pos g2] at hr
        split at hr
        · assumption
        · split at hr <;> omega
      have hl0 : 0 < (allK x.kp.l L d.key).length := List.length_pos_iff.2 hne
      rw [hlA] at h3
      simp [g1, ho] at h3
      exact hne h3
    refine awp_skip (thn_n (awp_seq (awp_seq ?_)))
    refine awp_drawn [] (by kernel_rfl) ?_
    show aB _ _ _ _ _ 5 #[false, false, false, false, false] _
    refine bU 0 rfl (by kernel_rfl) rfl (q_load 8 tk63 rfl rfl rfl) ?_
    refine bU 1 rfl (by kernel_rfl) rfl (q_call (by kernel_rfl) rfl (fun w S fp hst => (con_rank _).quiet0 hst)) ?_
    refine bU 2 rfl (by kernel_rfl) rfl (q_load 10 tk63 rfl rfl rfl) ?_
    refine bU 3 rfl (by kernel_rfl) rfl (q_call (by kernel_rfl) rfl (fun w S fp hst => (con_rank _).quiet0 hst)) ?_
    refine bU 4 rfl (by kernel_rfl) rfl (q_lss rfl rfl) ?_
    refine aB_nil (by kernel_rfl) ?_
    refine thn_n ?_
    refine awp_cond _ rfl (fun h5 => ?_) (fun h5 => ?_)
    ·skip
     have hcs : mput (chFr x.kp.l L d) d.key d.p = chP x.kp.l (L ++ [d]) := by rw [chP_next hdef holdf holdc, if_pos (show rankF d < rankF old from of_decide_eq_true h5)]
     refine awp_drawn [6] (by kernel_rfl) ?_
     show aB _ _ _ _ _ 7 #[false, false, false, false, false, false, false] _
     refine bU 0 rfl (by kernel_rfl) rfl (q_loadDE (o := 0) tk101 rfl (.of (psAt 0 rfl)) rfl) ?_
     refine bU 1 rfl (by kernel_rfl) rfl (q_nilCheck rfl) ?_
     refine bU 2 rfl (by kernel_rfl) rfl (q_fieldAddr (off := 6) (by kernel_rfl) rfl) ?_
     refine bU 3 rfl (by kernel_rfl) rfl (q_loadDE (o := 6) tk103 rfl (.of (psAt 1 rfl)) rfl) ?_
     refine bU 4 rfl (by kernel_rfl) rfl (q_load 9 tk157 rfl rfl rfl) ?_
     refine bU 5 rfl (by kernel_rfl) rfl (q_load 7 tk34 rfl rfl rfl) ?_
     refine aB_eff 6 rfl (by kernel_rfl) rfl rfl (e_mapUpdate (k := d.key) (v := d.p) 2 Tryz.underlying103 (kyK) rfl rfl rfl rfl ?_)
     refine aB_st rfl (by (try simp only [nM, nN]); rfl) (by (try simp only [putB, place, Nat.reduceBEq, if_true, if_false, reduceIte, Nat.reduceAdd, nW]); rfl) ?_
     refine aB_nil (by kernel_rfl) ?_
     refine thn_n (awp_take 1 d.key rfl ?_)
     refine awp_drawn [7, 9, 11] (by kernel_rfl) ?_
     show aB _ _ _ _ _ 12 #[false, false, false, false, false, false, false, false, false, false, false, false] _
     refine bU 0 rfl (by kernel_rfl) rfl (q_loadDE (o := 0) tk101 rfl (.of (psAt 0 rfl)) rfl) ?_
     refine bU 1 rfl (by kernel_rfl) rfl (q_nilCheck rfl) ?_
     refine bU 2 rfl (by kernel_rfl) rfl (q_fieldAddr (off := 5) (by kernel_rfl) rfl) ?_
     refine bU 3 rfl (by kernel_rfl) rfl (q_loadDE (o := 5) tk102 rfl (.of (psAt 1 rfl)) rfl) ?_
     refine bU 4 rfl (by kernel_rfl) rfl (q_load 9 tk157 rfl rfl rfl) ?_
     refine bU 5 rfl (by kernel_rfl) rfl (q_load 7 tk34 rfl rfl rfl) ?_
     refine aB_eff (q := true) 6 rfl (by kernel_rfl) rfl rfl (w_lit (zs := [.int .i64 0, .int .i64 0]) (l := [(0, .tmp 94)]) el158 (by kernel_rfl) (by decide) (by decide) (by decide) rfl rfl rfl (.more rfl (.v rfl (.v rfl .nil)) .nil) rfl rfl (fun v11_6 => ?_))
     refine aB_st rfl (by (try simp only [nM, nN]); rfl) (by (try simp only [putB, place, Nat.reduceBEq, if_true, if_false, reduceIte, Nat.reduceAdd, nW]); rfl) ?_
     refine aB_eff 7 rfl (by kernel_rfl) rfl rfl (e_mapEntry (k := d.key) (v0 := (⟨none, 0, []⟩ : Sl GCulprit)) 0 Tryz.underlying102 (kyK) (by kernel_rfl) rfl rfl rfl rfl (fun z11_7 => ?_))
     refine aB_st rfl (by (try simp only [nM, nN]); rfl) (by (try simp only [putB, place, Nat.reduceBEq, if_true, if_false, reduceIte, Nat.reduceAdd, nW]); rfl) ?_
     refine bU 8 rfl (by kernel_rfl) rfl (q_extract rfl rfl) ?_
     refine aB_p 10 rfl (by kernel_rfl) true rfl rfl (fun _ => q_extract rfl rfl) ?_
     refine aB_eff 9 rfl (by kernel_rfl) rfl rfl (w_append 11 el158 rfl rfl rfl rfl (w_srcO 12 el158 rfl (by simp)) (by first | assumption | simp) (by show ((getS st.mA d.key).l.map GCulprit.row).length + 1 ≤ _; rw [List.length_map]; exact Nat.le_trans (Nat.add_le_add_right hlA2 1) (by decide)) (((getS st.mA d.key).l ++ [d.p]).length) (by show ((getS st.mA d.key).l.map GCulprit.row).length + 1 = _; rw [List.length_map, List.length_append]; rfl) (fun v11_9 c11_9 => ?_))
     refine aB_st rfl (by (try simp only [nM, nN]); rfl) (by (try simp only [putB, place, Nat.reduceBEq, if_true, if_false, reduceIte, Nat.reduceAdd, nW]); rfl) ?_
     refine aB_eff 11 rfl (by kernel_rfl) rfl rfl (e_entryStore (k := d.key) (v := (⟨v11_9, c11_9, (getS st.mA d.key).l ++ [d.p]⟩ : Sl GCulprit)) 0 (kyK) rfl rfl rfl rfl ?_)
     refine aB_st rfl (by (try simp only [nM, nN]); rfl) (by (try simp only [putB, place, Nat.reduceBEq, if_true, if_false, reduceIte, Nat.reduceAdd, nW]); rfl) ?_
     refine aB_nil (by kernel_rfl) ?_
     rw [hcs, mput_mput]
     refine fin0 [] [0, 1, 2, 3, 4, 5, 6, 11] rfl Tryz.results84 ?_ (.inl rfl)
     exact ⟨rfl, .inr ⟨⟨v11_9, c11_9, (getS st.mA d.key).l ++ [d.p]⟩, mN, _, _, _, hI.step hdef rfl hmN hfa (hI.lt hA), rfl, (by rw [List.map_append]; rfl), rfl⟩⟩
    ·skip
     have hcs : chFr x.kp.l L d = chP x.kp.l (L ++ [d]) := by rw [chP_next hdef holdf holdc, if_neg (show ¬ rankF d < rankF old from of_decide_eq_false h5)]
     refine awp_skip (thn_n (awp_take 1 d.key rfl ?_))
     refine awp_drawn [7, 9, 11] (by kernel_rfl) ?_
     show aB _ _ _ _ _ 12 #[false, false, false, false, false, false, false, false, false, false, false, false] _
     refine bU 0 rfl (by kernel_rfl) rfl (q_loadDE (o := 0) tk101 rfl (.of (psAt 0 rfl)) rfl) ?_
     refine bU 1 rfl (by kernel_rfl) rfl (q_nilCheck rfl) ?_
     refine bU 2 rfl (by kernel_rfl) rfl (q_fieldAddr (off := 5) (by kernel_rfl) rfl) ?_
     refine bU 3 rfl (by kernel_rfl) rfl (q_loadDE (o := 5) tk102 rfl (.of (psAt 1 rfl)) rfl) ?_
     refine bU 4 rfl (by kernel_rfl) rfl (q_load 9 tk157 rfl rfl rfl) ?_
     refine bU 5 rfl (by kernel_rfl) rfl (q_load 7 tk34 rfl rfl rfl) ?_
     refine aB_eff (q := true) 6 rfl (by kernel_rfl) rfl rfl (w_lit (zs := [.int .i64 0, .int .i64 0]) (l := [(0, .tmp 94)]) el158 (by kernel_rfl) (by decide) (by decide) (by decide) rfl rfl rfl (.more rfl (.v rfl (.v rfl .nil)) .nil) rfl rfl (fun v11_6 => ?_))
     refine aB_st rfl (by (try simp only [nM, nN]); rfl) (by (try simp only [putB, place, Nat.reduceBEq, if_true, if_false, reduceIte, Nat.reduceAdd, nW]); rfl) ?_
     refine aB_eff 7 rfl (by kernel_rfl) rfl rfl (e_mapEntry (k := d.key) (v0 := (⟨none, 0, []⟩ : Sl GCulprit)) 0 Tryz.underlying102 (kyK) (by kernel_rfl) rfl rfl rfl rfl (fun z11_7 => ?_))
     refine aB_st rfl (by (try simp only [nM, nN]); rfl) (by (try simp only [putB, place, Nat.reduceBEq, if_true, if_false, reduceIte, Nat.reduceAdd, nW]); rfl) ?_
     refine bU 8 rfl (by kernel_rfl) rfl (q_extract rfl rfl) ?_
     refine aB_p 10 rfl (by kernel_rfl) true rfl rfl (fun _ => q_extract rfl rfl) ?_
     refine aB_eff 9 rfl (by kernel_rfl) rfl rfl (w_append 11 el158 rfl rfl rfl rfl (w_srcO 12 el158 rfl (by simp)) (by first | assumption | simp) (by show ((getS st.mA d.key).l.map GCulprit.row).length + 1 ≤ _; rw [List.length_map]; exact Nat.le_trans (Nat.add_le_add_right hlA2 1) (by decide)) (((getS st.mA d.key).l ++ [d.p]).length) (by show ((getS st.mA d.key).l.map GCulprit.row).length + 1 = _; rw [List.length_map, List.length_append]; rfl) (fun v11_9 c11_9 => ?_))
     refine aB_st rfl (by (try simp only [nM, nN]); rfl) (by (try simp only [putB, place, Nat.reduceBEq, if_true, if_false, reduceIte, Nat.reduceAdd, nW]); rfl) ?_
     refine aB_eff 11 rfl (by kernel_rfl) rfl rfl (e_entryStore (k := d.key) (v := (⟨v11_9, c11_9, (getS st.mA d.key).l ++ [d.p]⟩ : Sl GCulprit)) 0 (kyK) rfl rfl rfl rfl ?_)
     refine aB_st rfl (by (try simp only [nM, nN]); rfl) (by (try simp only [putB, place, Nat.reduceBEq, if_true, if_false, reduceIte, Nat.reduceAdd, nW]); rfl) ?_
     refine aB_nil (by kernel_rfl) ?_
     rw [hcs, mput_mput]
     refine fin0 [] [0, 1, 2, 3, 4, 5, 6, 11] rfl Tryz.results84 ?_ (.inl rfl)
     exact ⟨rfl, .inr ⟨⟨v11_9, c11_9, (getS st.mA d.key).l ++ [d.p]⟩, mN, _, _, _, hI.step hdef rfl hmN hfa (hI.lt hA), rfl, (by rw [List.map_append]; rfl), rfl⟩⟩
end Go.Proofs.YtgmiihmahaahiaaGreatDoor

