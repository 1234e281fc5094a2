/- Parts of the proof, in build order. No condition. -/
import Derived.Test.YtgmiihmahaahiaaGreatDoorQd13
import Derived.Test.YtgmiihmahaahiaaGreatDoorQd03
import Derived.Test.YtgmiihmahaahiaaGreatDoorQd11
import Derived.Test.YtgmiihmahaahiaaGreatDoorQd07
set_option linter.unusedSimpArgs false
set_option linter.unusedVariables false
set_option maxHeartbeats 1000000
set_option maxRecDepth 20000
namespace Go.Proofs.YtgmiihmahaahiaaGreatDoor
open Go.RowKit Go.Lp Go.Sy
open Go.Proofs.Tryz
attribute [local irreducible] aL aB awp aC fwp
def pM (keep : Bool) : List cG := [⟨⟨#[116, 101, 120, 116]⟩, 0, 8, 8, .empty, false⟩, ⟨⟨#[100, 97, 116, 97]⟩, 1, 8, 0, .empty, false⟩, ⟨⟨#[111, 108, 100]⟩, 2, 8, 0, .empty, keep⟩]
def sn : List bE := [⟨⟨#[109, 97, 105, 110]⟩, .empty, false, 1, 2, 0, 0, 0, 0, 0⟩, ⟨⟨#[118]⟩, .empty, false, 0, 0, 1, 1, 0, 0, 0⟩]
def yE : List ju := [⟨0, 0, 8, 1, 0⟩]
def qU (a1 a2 a3 : Option Addr) (keep : Bool) : ax := ⟨⟨#[97]⟩, ⟨a1, 3, pM keep⟩, ⟨a2, 2, sn⟩, ⟨a3, 1, yE⟩, default, default, default, default, default, default, default⟩
theorem xP : Con Tryz.prog 49 [] [] [] fun r ps hp => ps = [] ∧ ∃ a1 a2 a3, r = (qU a1 a2 a3 false).val ∧ hp = [bg (.slice a1 3 3) 85 6 ((pM false).map cG.row), bg (.slice a2 2 2) 63 10 (sn.map bE.row), bg (.slice a3 1 1) 182 5 (yE.map ju.row)] := by
 refine Con.enter Tryz.func49 rfl (by simp [Tryz.ntmps49]) ?_
 show awp _ _ _ _ ⟨[], _, _⟩
 refine aSR ?_
 refine an (q := true) rfl (bc (zs := [.string .empty, .slice none 0 0, .slice none 0 0, .slice none 0 0, .slice none 0 0, .slice none 0 0, .slice none 0 0, .slice none 0 0, .slice none 0 0, .slice none 0 0, .slice none 0 0]) (by kernel_rfl) rfl (fun b0_0 => ?_))
 refine aHN ?_
 refine aNn (aSR ?_)
 refine aU rfl (dz (l := [(0, .const (.string ⟨#[116, 101, 120, 116]⟩)), (1, .const (.int .i64 0)), (2, .const (.int .i64 8)), (3, .const (.int .i64 8))]) (zs := [.string .empty, .int .i64 0, .int .i64 0, .int .i64 0, .string .empty, .bool false]) (pl := [(0, 1), (1, 1), (2, 1), (3, 1), (4, 1), (5, 1)]) (by kernel_rfl) (by kernel_rfl) (by kernel_rfl) rfl rfl rfl) ?_
 refine aU rfl (dz (l := [(0, .const (.string ⟨#[100, 97, 116, 97]⟩)), (1, .const (.int .i64 1)), (2, .const (.int .i64 8))]) (zs := [.string .empty, .int .i64 0, .int .i64 0, .int .i64 0, .string .empty, .bool false]) (pl := [(0, 1), (1, 1), (2, 1), (3, 1), (4, 1), (5, 1)]) (by kernel_rfl) (by kernel_rfl) (by kernel_rfl) rfl rfl rfl) ?_
 refine aU rfl (dz (l := [(0, .const (.string ⟨#[111, 108, 100]⟩)), (1, .const (.int .i64 2)), (2, .const (.int .i64 8))]) (zs := [.string .empty, .int .i64 0, .int .i64 0, .int .i64 0, .string .empty, .bool false]) (pl := [(0, 1), (1, 1), (2, 1), (3, 1), (4, 1), (5, 1)]) (by kernel_rfl) (by kernel_rfl) (by kernel_rfl) rfl rfl rfl) ?_
 refine an (q := true) rfl (cB (zs := [.string .empty, .int .i64 0, .int .i64 0, .int .i64 0, .string .empty, .bool false]) (l := [(0, .tmp 2), (1, .tmp 3), (2, .tmp 4)]) el50 (by kernel_rfl) (by decide) (by decide) (by decide) rfl rfl rfl (.more rfl (.v rfl (.v rfl (.v rfl (.v rfl (.v rfl (.v rfl .nil)))))) (.more rfl (.v rfl (.v rfl (.v rfl (.v rfl (.v rfl (.v rfl .nil)))))) (.more rfl (.v rfl (.v rfl (.v rfl (.v rfl (.v rfl (.v rfl .nil)))))) .nil))) rfl rfl (fun v1_3 => ?_))
 refine aHN ?_
 refine aU rfl (dz (l := [(0, .const (.string ⟨#[97]⟩)), (1, .tmp 5)]) (zs := [.string .empty, .slice none 0 0, .slice none 0 0, .slice none 0 0, .slice none 0 0, .slice none 0 0, .slice none 0 0, .slice none 0 0, .slice none 0 0, .slice none 0 0, .slice none 0 0]) (pl := [(0, 1), (1, 1), (2, 1), (3, 1), (4, 1), (5, 1), (6, 1), (7, 1), (8, 1), (9, 1), (10, 1)]) (by kernel_rfl) (by kernel_rfl) (by kernel_rfl) rfl rfl rfl) ?_
 refine an (q := true) rfl (bc (zs := [.string .empty, .slice none 0 0, .slice none 0 0, .slice none 0 0, .slice none 0 0, .slice none 0 0, .slice none 0 0, .slice none 0 0, .slice none 0 0, .slice none 0 0, .slice none 0 0]) (by kernel_rfl) rfl (fun b1_5 => ?_))
 refine aHN ?_
 refine an rfl (aV 2 tk61 rfl rfl rfl rfl ?_)
 refine aHK ?_
 refine aNn (aSR ?_)
 refine aU rfl (dz (l := [(0, .const (.string ⟨#[109, 97, 105, 110]⟩)), (3, .const (.int .i64 1)), (4, .const (.int .i64 2)), (6, .const (.int .i64 0))]) (zs := [.string .empty, .string .empty, .bool false, .int .i64 0, .int .i64 0, .int .i64 0, .int .i64 0, .int .i64 0, .int .i64 0, .int .i64 0]) (pl := [(0, 1), (1, 1), (2, 1), (3, 1), (4, 1), (5, 1), (6, 1), (7, 1), (8, 1), (9, 1)]) (by kernel_rfl) (by kernel_rfl) (by kernel_rfl) rfl rfl rfl) ?_
 refine aU rfl (dz (l := [(0, .const (.string ⟨#[118]⟩)), (3, .const (.int .i64 0)), (5, .const (.int .i64 1)), (6, .const (.int .i64 1))]) (zs := [.string .empty, .string .empty, .bool false, .int .i64 0, .int .i64 0, .int .i64 0, .int .i64 0, .int .i64 0, .int .i64 0, .int .i64 0]) (pl := [(0, 1), (1, 1), (2, 1), (3, 1), (4, 1), (5, 1), (6, 1), (7, 1), (8, 1), (9, 1)]) (by kernel_rfl) (by kernel_rfl) (by kernel_rfl) rfl rfl rfl) ?_
 refine an (q := true) rfl (cB (zs := [.string .empty, .string .empty, .bool false, .int .i64 0, .int .i64 0, .int .i64 0, .int .i64 0, .int .i64 0, .int .i64 0, .int .i64 0]) (l := [(0, .tmp 7), (1, .tmp 8)]) el51 (by kernel_rfl) (by decide) (by decide) (by decide) rfl rfl rfl (.more rfl (.v rfl (.v rfl (.v rfl (.v rfl (.v rfl (.v rfl (.v rfl (.v rfl (.v rfl (.v rfl .nil)))))))))) (.more rfl (.v rfl (.v rfl (.v rfl (.v rfl (.v rfl (.v rfl (.v rfl (.v rfl (.v rfl (.v rfl .nil)))))))))) .nil)) rfl rfl (fun v2_2 => ?_))
 refine aHN ?_
 refine aU rfl (qFA (off := 2) rfl) ?_
 refine an rfl (aV 2 tk51 rfl rfl rfl rfl ?_)
 refine aHK ?_
 refine aNn (aSR ?_)
 refine aU rfl (dz (l := [(0, .const (.int .i64 0)), (2, .const (.int .i64 8)), (3, .const (.int .i64 1))]) (zs := [.int .i64 0, .int .i64 0, .int .i64 0, .int .i64 0, .int .i64 0]) (pl := [(0, 1), (1, 1), (2, 1), (3, 1), (4, 1)]) (by kernel_rfl) (by kernel_rfl) (by kernel_rfl) rfl rfl rfl) ?_
 refine an (q := true) rfl (cB (zs := [.int .i64 0, .int .i64 0, .int .i64 0, .int .i64 0, .int .i64 0]) (l := [(0, .tmp 11)]) el52 (by kernel_rfl) (by decide) (by decide) (by decide) rfl rfl rfl (.more rfl (.v rfl (.v rfl (.v rfl (.v rfl (.v rfl .nil))))) .nil) rfl rfl (fun v3_1 => ?_))
 refine aHN ?_
 refine aU rfl (qFA (off := 3) rfl) ?_
 refine an rfl (aV 2 tk52 rfl rfl rfl rfl ?_)
 refine aHK ?_
 refine aNn (aSR (aU rfl (ah 2 tk61 rfl rfl rfl) ?_))
 refine an rfl (aV 0 tk61 rfl rfl rfl rfl ?_)
 refine aHK ?_
 refine aNn (aJ ?_)
 refine nV [] [1, 3, 4] rfl Tryz.results49 (cV 0 tk61 rfl rfl rfl) ?_ (.inr rfl)
 exact ⟨rfl, v1_3, v2_2, v3_1, rfl, rfl⟩
end Go.Proofs.YtgmiihmahaahiaaGreatDoor

namespace Go.Proofs.YtgmiihmahaahiaaGreatDoor
open Go.RowKit Go.Lp Go.Sy Go.Lv
open Go.Proofs.Tryz
def chT : List bq := [⟨2, 0, 0, 0, 0, false⟩, ⟨1, 0, 1, 0, 0, false⟩]
def smL (lib keep : Bool) (a1 a2 a3 ao ak ak2 ac ac2 af : Option Addr) (cf : Nat) : bj :=
 ⟨⟨.empty, lib, default, default, ⟨#[109, 97, 105, 110]⟩, 0, default⟩, ⟨ao, 1, [qU a1 a2 a3 keep]⟩, ⟨ak2, 1, [⟨ak, 3, [true, true, true]⟩]⟩, ⟨ac2, 1, [⟨ac, 2, chT⟩]⟩, ⟨af, cf, [0]⟩, 3⟩
section
variable {a1 a2 a3 ao ak ak2 ac ac2 af : Option Addr} {cf : Nat} {lib keep : Bool}
theorem wN : eo (smL lib keep a1 a2 a3 ao ak ak2 ac ac2 af cf) 1 = [⟨0, 1⟩] := by rfl
theorem yO : cF (smL lib keep a1 a2 a3 ao ak ak2 ac ac2 af cf).objs.l 1 = 3 := by rfl
theorem yp : gI (smL lib keep a1 a2 a3 ao ak ak2 ac ac2 af cf).objs.l ⟨#[109, 97, 105, 110]⟩ = some true := by rfl
theorem zL : dn (smL lib keep a1 a2 a3 ao ak ak2 ac ac2 af cf) 1 = [⟨0, 0⟩, ⟨0, 1⟩, ⟨0, 2⟩] := by rfl
theorem yg : ik (smL lib keep a1 a2 a3 ao ak ak2 ac ac2 af cf) [⟨0, 0⟩, ⟨0, 1⟩, ⟨0, 2⟩] = if keep then [2] else [] := by cases keep <;> rfl
theorem yn : iF (smL false keep a1 a2 a3 ao ak ak2 ac ac2 af cf) ⟨⟨#[109, 97, 105, 110]⟩, .empty, false, 1, 2, 0, 0, 0, 0, 0⟩ = true := by
 unfold iF smL; simp
theorem aaG : fh (smL lib keep a1 a2 a3 ao ak ak2 ac ac2 af cf) 0 0 ⟨⟨#[109, 97, 105, 110]⟩, .empty, false, 1, 2, 0, 0, 0, 0, 0⟩ = if lib then [] else [0] := by
 cases lib with
 | false => exact if_pos ⟨rfl, rfl, rfl, .inl yn⟩
 | true =>
   refine if_neg ?_
   rintro ⟨_, _, _, h | h⟩
   · exact absurd h (show ¬ false = true by decide)
   · have h2 : (some true).getD false = false := (congrArg (fun o => Option.getD o false) yp.symm).trans h
     cases h2
theorem aaN : fh (smL lib keep a1 a2 a3 ao ak ak2 ac ac2 af cf) 0 1 ⟨⟨#[118]⟩, .empty, false, 0, 0, 1, 1, 0, 0, 0⟩ = [] := if_neg fun h => by cases h.1
theorem ui : cY (smL lib keep a1 a2 a3 ao ak ak2 ac ac2 af cf) 1 = (if keep then [2] else []) ++ if lib then [] else [0] := by
 have e : cY (smL lib keep a1 a2 a3 ao ak ak2 ac ac2 af cf) 1 = ik (smL lib keep a1 a2 a3 ao ak ak2 ac ac2 af cf) [⟨0, 0⟩, ⟨0, 1⟩, ⟨0, 2⟩] ++ (fh (smL lib keep a1 a2 a3 ao ak ak2 ac ac2 af cf) 0 0 ⟨⟨#[109, 97, 105, 110]⟩, .empty, false, 1, 2, 0, 0, 0, 0, 0⟩ ++ fh (smL lib keep a1 a2 a3 ao ak ak2 ac ac2 af cf) 0 1 ⟨⟨#[118]⟩, .empty, false, 0, 0, 1, 1, 0, 0, 0⟩) := by
   unfold cY
   rw [show dn (smL lib keep a1 a2 a3 ao ak ak2 ac ac2 af cf) (smL lib keep a1 a2 a3 ao ak ak2 ac ac2 af cf).objs.l.length = [⟨0, 0⟩, ⟨0, 1⟩, ⟨0, 2⟩] from zL]
   congr 1
   show (jm _ 0 ++ []) = _
   rw [List.append_nil]
   show dM _ 0 _ 2 ++ [] = _
   rw [List.append_nil]
   show _ ++ (_ ++ []) = _
   rw [List.append_nil]; rfl
 rw [e, yg, aaG, aaN, List.append_nil]
theorem aaZ : jr (smL lib keep a1 a2 a3 ao ak ak2 ac ac2 af cf) = [[!lib, !lib, keep]] := by
 have e : ea (smL lib keep a1 a2 a3 ao ak ak2 ac ac2 af cf) = fy 3 (fw 3 [⟨0, 1⟩] ((if keep then [2] else []) ++ if lib then [] else [0])) := by
   unfold ea
   rw [show (smL lib keep a1 a2 a3 ao ak ak2 ac ac2 af cf).objs.l.length = 1 from rfl, yO, wN, ui]
 have e2 : jr (smL lib keep a1 a2 a3 ao ak ak2 ac ac2 af cf) = [(gh 3 (ea (smL lib keep a1 a2 a3 ao ak ak2 ac ac2 af cf))).take 3] := rfl
 rw [e2, e, qI]
 cases lib <;> cases keep <;> decide +kernel
theorem abN : abX (smL false false a1 a2 a3 ao ak ak2 ac ac2 af cf) 0 1 = [⟨0, 0⟩, ⟨0, 1⟩] := by
 have hk : cM (smL false false a1 a2 a3 ao ak ak2 ac ac2 af cf).objs.l (smL false false a1 a2 a3 ao ak ak2 ac ac2 af cf).keep.l 0 1 = true := rfl
 unfold abX
 rw [if_pos hk]
 have e : si (smL false false a1 a2 a3 ao ak ak2 ac ac2 af cf) (elt (smL false false a1 a2 a3 ao ak ak2 ac ac2 af cf).first.l 0 + 1) = [0, 1] := by
   unfold si
   rw [show (smL false false a1 a2 a3 ao ak ak2 ac ac2 af cf).objs.l.length = 1 from rfl, yO, wN, ui, qI, xQ]
   show fu _ _ 1 = _
   decide +kernel
 rw [e]; rfl
end
end Go.Proofs.YtgmiihmahaahiaaGreatDoor

namespace Go.Proofs.YtgmiihmahaahiaaGreatDoor
open Go.RowKit Go.Lp Go.Sy Go.Lv
open Go.Proofs.Tryz
abbrev smX (lib keep : Bool) (a1 a2 a3 ao ak ak2 ac ac2 : Option Addr) : bj :=
 ⟨⟨.empty, lib, default, default, ⟨#[109, 97, 105, 110]⟩, 0, default⟩, ⟨ao, 1, [qU a1 a2 a3 keep]⟩, ⟨ak2, 1, [⟨ak, 3, [true, true, true]⟩]⟩, ⟨ac2, 1, [⟨ac, 2, chT⟩]⟩, default, 0⟩
abbrev j9 (keep : Bool) (a1 a2 a3 ao ak ak2 ac ac2 : Option Addr) : List Res :=
 [bg (.slice ao 1 1) 61 11 [ax.row (qU a1 a2 a3 keep)], bg (.slice ak 3 3) 4 1 [[.v (.bool true)], [.v (.bool true)], [.v (.bool true)]], bg (.slice ak2 1 1) 68 1 [[.v (.slice ak 3 3)]],
  bg (.slice ac 2 2) 65 6 (chT.map bq.row), bg (.slice ac2 1 1) 66 1 [[.v (.slice ac 2 2)]], bg (.slice a1 3 3) 85 6 ((pM keep).map cG.row), bg (.slice a2 2 2) 63 10 (sn.map bE.row), bg (.slice a3 1 1) 182 5 (yE.map ju.row)]
theorem abk {lib keep : Bool} {a1 a2 a3 ao ak ak2 ac ac2 : Option Addr} (w : World) (S : bz) (fp : Nat → bz) (h : ∀ (i : Nat) (A : Res), (j9 keep a1 a2 a3 ao ak ak2 ac ac2)[i]? = some A → A.holds w S (fp i)) :
   (smX lib keep a1 a2 a3 ao ak ak2 ac ac2).ok.holds w (fun b => S b ∨ tot fp (j9 keep a1 a2 a3 ao ak ak2 ac ac2).length b) := by
 have key : ∀ (i : Nat) (v : Value) (T : TypeId) (sz : Nat) (rows : List (List D)), (j9 keep a1 a2 a3 ao ak ak2 ac ac2)[i]? = some (bg v T sz rows) → eU w (fun b => S b ∨ tot fp (j9 keep a1 a2 a3 ao ak ak2 ac ac2).length b) v (.sl rows) := fun i v T sz rows hi =>
   (eO (h i _ hi)).mono (fun _ _ => rfl) fun b hb => hb.imp id fun hf => ⟨i, (List.getElem?_eq_some_iff.1 hi).1, hf⟩
 have nil : ∀ S', eU w S' (.slice none 0 0) (.sl []) := fun S' => .e _ _ (by unfold maxLen; omega)
 have st : ∀ (x : ByteArray) (S' : bz), x.size ≤ 100 → (eL x).holds w S' := fun x S' h => Nat.le_trans h (by unfold maxLen; omega)
 refine ⟨⟨st .empty _ (by decide), nil _, fun y hy => (by cases hy), nil _, fun y hy => (by cases hy), st ⟨#[109, 97, 105, 110]⟩ _ (by decide), nil _, fun y hy => by cases hy⟩, key 0 _ _ _ _ rfl, fun y hy => ?_, key 2 _ _ _ _ rfl, fun y hy => ?_, key 4 _ _ _ _ rfl, fun y hy => ?_, nil _⟩
 · rw [List.mem_singleton.1 hy]
   refine ⟨st ⟨#[97]⟩ _ (by decide), key 5 _ _ _ _ rfl, fun y hy => ?_, key 6 _ _ _ _ rfl, fun y hy => ?_, key 7 _ _ _ _ rfl, nil _, fun y hy => (by cases hy), nil _, nil _, fun y hy => (by cases hy), nil _, fun y hy => (by cases hy), nil _, fun y hy => (by cases hy), nil _, nil _, fun y hy => by cases hy⟩
   · have h : y ∈ pM keep := hy
     unfold pM at h
     simp only [List.mem_cons, List.not_mem_nil, or_false] at h
     rcases h with rfl | rfl | rfl
     · exact ⟨st ⟨#[116, 101, 120, 116]⟩ _ (by decide), st .empty _ (by decide)⟩
     · exact ⟨st ⟨#[100, 97, 116, 97]⟩ _ (by decide), st .empty _ (by decide)⟩
     · exact ⟨st ⟨#[111, 108, 100]⟩ _ (by decide), st .empty _ (by decide)⟩
   · have h : y ∈ sn := hy
     unfold sn at h
     simp only [List.mem_cons, List.not_mem_nil, or_false] at h
     rcases h with rfl | rfl
     · exact ⟨st ⟨#[109, 97, 105, 110]⟩ _ (by decide), st .empty _ (by decide)⟩
     · exact ⟨st ⟨#[118]⟩ _ (by decide), st .empty _ (by decide)⟩
 · rw [List.mem_singleton.1 hy]; exact key 1 _ _ _ _ rfl
 · rw [List.mem_singleton.1 hy]; exact key 3 _ _ _ _ rfl
theorem yI {lib keep : Bool} {a1 a2 a3 ao ak ak2 ac ac2 : Option Addr} : mL (smX lib keep a1 a2 a3 ao ak ak2 ac ac2).objs.l := ⟨show 1 ≤ 4 by decide, fun o ho => by rw [List.mem_singleton.1 ho]; exact ⟨show 3 ≤ 6 by decide, show 2 ≤ 14 by decide, show 1 ≤ 14 by decide, show 0 ≤ 6 by decide, show 0 ≤ 6 by decide⟩⟩
theorem jO (lib keep : Bool) (a1 a2 a3 ao ak ak2 ac ac2 : Option Addr) : Con Tryz.prog 27 [(smX lib keep a1 a2 a3 ao ak ak2 ac ac2).r.val, .slice ao 1 1, .slice ak2 1 1, .slice ac2 1 1] [] (j9 keep a1 a2 a3 ao ak ak2 ac ac2)
   fun r ps hp => ps = [] ∧ ∃ t : Sl (Sl Bool), r = t.val ∧ eX t = [[!lib, !lib, keep]] ∧ hp = j9 keep a1 a2 a3 ao ak ak2 ac ac2 ++ [qk (fK t)] := by
 refine (Con.borrowL (sS (smX lib keep a1 a2 a3 ao ak ak2 ac ac2) yI) (j9 keep a1 a2 a3 ao ak ak2 ac ac2) abk fun v ps' hp' ⟨_, t, _, _, _, _, e⟩ r hr => ?_).post fun v ps' hp' ⟨h1, ps2, hp2, ⟨_, t, ad, cap, h2, h3, h4⟩, h5⟩ => ⟨h1, t, h2, by rw [h3]; exact aaZ, by rw [h5, h4]⟩
 rw [e] at hr; rw [List.mem_singleton.1 hr]; exact vu _
theorem uT (a1 a2 a3 ao ak ak2 ac ac2 : Option Addr) : Con Tryz.prog 50 [(smX false false a1 a2 a3 ao ak ak2 ac ac2).r.val, .slice ao 1 1, .slice ak2 1 1, .slice ac2 1 1, .int .i64 0, .int .i64 1] [] (j9 false a1 a2 a3 ao ak ak2 ac ac2)
   fun r ps hp => ps = [] ∧ ∃ (ad : Option Addr) (c : Nat), r = .slice ad 2 c ∧ hp = j9 false a1 a2 a3 ao ak ak2 ac ac2 ++ [bg (.slice ad 2 c) 133 2 [[.v (.int .i64 0), .v (.int .i64 0)], [.v (.int .i64 0), .v (.int .i64 1)]]] := by
 refine (Con.borrowL (zZ (smX false false a1 a2 a3 ao ak ak2 ac ac2) yI 0 1) (j9 false a1 a2 a3 ao ak ak2 ac ac2) abk fun v ps' hp' ⟨_, t, _, _, _, _, e⟩ r hr => ?_).post fun v ps' hp' ⟨h1, ps2, hp2, ⟨_, t, ad, cap, h2, h3, h4⟩, h5⟩ => ?_
 · rw [e] at hr; rw [List.mem_singleton.1 hr]
   exact lT fun r hr d hd => by
     obtain ⟨p, _, rfl⟩ := List.mem_map.1 hr
     simp only [dr.row, List.mem_cons, List.not_mem_nil, or_false] at hd
     rcases hd with rfl | rfl <;> exact ⟨_, rfl⟩
 · have e : t.l = [⟨0, 0⟩, ⟨0, 1⟩] := by rw [h3]; exact abN
   obtain ⟨ta, tc, tl⟩ := t
   dsimp only at e
   subst e
   exact ⟨h1, ta, tc, h2, by rw [h5, h4]; rfl⟩
theorem jx (a : Sl (Sl Bool)) (b0 b1 b2 : Bool) (h : eX a = [[b0, b1, b2]]) (ai ao : Option Addr) : Con Tryz.prog 51 [a.val, .slice ao 1 1] [fK a] [bg (.slice ai 3 3) 4 1 [[.v (.bool b0)], [.v (.bool b1)], [.v (.bool b2)]], bg (.slice ao 1 1) 68 1 [[.v (.slice ai 3 3)]]]
   fun r ps hp => r = .bool true ∧ ps = [] ∧ hp = [] := by
 refine Con.clean (φ := fun r => r = .bool true) (R := fun r _ _ => r = .bool true) ?_ fun _ _ _ h => h
 refine Con.ofRes (p := fK ⟨ao, 1, [⟨ai, 3, [b0, b1, b2]⟩]⟩) (((zX a ⟨ao, 1, [⟨ai, 3, [b0, b1, b2]⟩]⟩).pre fun p hp => ?_).post fun v _ _ hv => ?_) _ fun w S fp hres => ?_
 · simp only [List.mem_cons, List.not_mem_nil, or_false] at hp
   rcases hp with rfl | rfl
   · exact .of (by simp)
   · exact .of (by simp)
 · rw [hv, h, show oX [[b0, b1, b2]] (eX ⟨ao, 1, [⟨ai, 3, [b0, b1, b2]⟩]⟩) = true from decide_eq_true rfl]
 · have key : ∀ (i : Nat) (v : Value) (T : TypeId) (sz : Nat) (rows : List (List D)), ([bg (.slice ai 3 3) 4 1 [[.v (.bool b0)], [.v (.bool b1)], [.v (.bool b2)]], bg (.slice ao 1 1) 68 1 [[.v (.slice ai 3 3)]]] : List Res)[i]? = some (bg v T sz rows) → eU w (fun b => S b ∨ tot fp 2 b) v (.sl rows) := fun i v T sz rows hi =>
     (eO (hres i _ hi)).mono (fun _ _ => rfl) fun b hb => hb.imp id fun hf => ⟨i, (List.getElem?_eq_some_iff.1 hi).1, hf⟩
   exact ⟨key 1 _ _ _ _ rfl, fun y hy => by rw [List.mem_singleton.1 hy]; exact key 0 _ _ _ _ rfl⟩
end Go.Proofs.YtgmiihmahaahiaaGreatDoor

namespace Go.Proofs.YtgmiihmahaahiaaGreatDoor
open Go.RowKit Go.Lp Go.Sy Go.Lv
open Go.Proofs.Tryz
attribute [local irreducible] aL aB awp aC fwp
theorem xG : Con Tryz.prog 24 [] [] [] fun r ps hp => r = .bool true ∧ ps = [] ∧ hp = [] := by
 refine Con.clean (φ := fun r => r = .bool true) (R := fun r _ _ => r = .bool true) ?_ fun _ _ _ h => h
 refine Con.enter Tryz.func24 rfl (by simp [Tryz.ntmps24]) ?_
 show awp _ _ _ _ ⟨[], _, _⟩
 refine aSR (aA rfl (aNn (aSR ?_)))
 refine an (q := true) rfl (bH [] [] (by kernel_rfl) rfl rfl rfl rfl (xP) ?_)
 rintro _ _ _ ⟨rfl, a1, a2, a3, rfl, rfl⟩
 refine aST ?_
 refine an (q := true) rfl (bc (zs := [.string .empty, .slice none 0 0, .slice none 0 0, .slice none 0 0, .slice none 0 0, .slice none 0 0, .slice none 0 0, .slice none 0 0, .slice none 0 0, .slice none 0 0, .slice none 0 0]) (by kernel_rfl) rfl (fun b1_1 => ?_))
 refine aHN ?_
 refine an rfl (aV 3 tk61 rfl rfl rfl rfl ?_)
 refine aHK ?_
 refine aNn (aSR ?_)
 refine an (q := true) rfl (cB (zs := [.bool false]) (l := [(0, .const (.bool true)), (1, .const (.bool true)), (2, .const (.bool true))]) el68 (by kernel_rfl) (by decide) (by decide) (by decide) rfl rfl rfl (.more rfl (.v rfl .nil) (.more rfl (.v rfl .nil) (.more rfl (.v rfl .nil) .nil))) rfl rfl (fun v2_0 => ?_))
 refine aHN ?_
 refine an (q := true) rfl (cB (zs := [.slice none 0 0]) (l := [(0, .tmp 10)]) el27 (by kernel_rfl) (by decide) (by decide) (by decide) rfl rfl rfl (.more rfl (.v rfl .nil) .nil) rfl rfl (fun v2_1 => ?_))
 refine aHN ?_
 refine aA rfl (aNn (aSR ?_))
 refine aU rfl (dz (l := [(0, .const (.int .i64 2))]) (zs := [.int .i64 0, .int .i64 0, .int .i64 0, .int .i64 0, .int .i64 0, .bool false]) (pl := [(0, 1), (1, 1), (2, 1), (3, 1), (4, 1), (5, 1)]) (by kernel_rfl) (by kernel_rfl) (by kernel_rfl) rfl rfl rfl) ?_
 refine aU rfl (dz (l := [(0, .const (.int .i64 1)), (2, .const (.int .i64 1))]) (zs := [.int .i64 0, .int .i64 0, .int .i64 0, .int .i64 0, .int .i64 0, .bool false]) (pl := [(0, 1), (1, 1), (2, 1), (3, 1), (4, 1), (5, 1)]) (by kernel_rfl) (by kernel_rfl) (by kernel_rfl) rfl rfl rfl) ?_
 refine an (q := true) rfl (cB (zs := [.int .i64 0, .int .i64 0, .int .i64 0, .int .i64 0, .int .i64 0, .bool false]) (l := [(0, .tmp 12), (1, .tmp 13)]) el66 (by kernel_rfl) (by decide) (by decide) (by decide) rfl rfl rfl (.more rfl (.v rfl (.v rfl (.v rfl (.v rfl (.v rfl (.v rfl .nil)))))) (.more rfl (.v rfl (.v rfl (.v rfl (.v rfl (.v rfl (.v rfl .nil)))))) .nil)) rfl rfl (fun v3_2 => ?_))
 refine aHN ?_
 refine an (q := true) rfl (cB (zs := [.slice none 0 0]) (l := [(0, .tmp 14)]) el31 (by kernel_rfl) (by decide) (by decide) (by decide) rfl rfl rfl (.more rfl (.v rfl .nil) .nil) rfl rfl (fun v3_3 => ?_))
 refine aHN ?_
 refine aA rfl (aNn (aSR ?_))
 refine aU rfl (dz (l := [(4, .const (.string ⟨#[109, 97, 105, 110]⟩))]) (zs := [.string .empty, .bool false, .slice none 0 0, .slice none 0 0, .string .empty, .int .i64 0, .slice none 0 0]) (pl := [(0, 1), (1, 1), (2, 1), (3, 1), (4, 1), (5, 1), (6, 1)]) (by kernel_rfl) (by kernel_rfl) (by kernel_rfl) rfl rfl rfl) ?_
 refine an (q := true) rfl (bc (zs := [.string .empty, .bool false, .slice none 0 0, .slice none 0 0, .string .empty, .int .i64 0, .slice none 0 0]) (by kernel_rfl) rfl (fun b4_1 => ?_))
 refine aHN ?_
 refine an rfl (aV 8 tk79 rfl rfl rfl rfl ?_)
 refine aHK ?_
 refine aNn (aSR (aU rfl (ah 8 tk79 rfl rfl rfl) (aU rfl (ah 3 tk61 rfl rfl rfl) ?_)))
 refine an (q := true) rfl (cB (zs := [.string .empty, .slice none 0 0, .slice none 0 0, .slice none 0 0, .slice none 0 0, .slice none 0 0, .slice none 0 0, .slice none 0 0, .slice none 0 0, .slice none 0 0, .slice none 0 0]) (l := [(0, .tmp 18)]) el22 (by kernel_rfl) (by decide) (by decide) (by decide) rfl rfl rfl (.more rfl (.v rfl (.v rfl (.v rfl (.v rfl (.v rfl (.v rfl (.v rfl (.v rfl (.v rfl (.v rfl (.v rfl .nil))))))))))) .nil) rfl rfl (fun v5_2 => ?_))
 refine aHN ?_
 refine aM rfl (aM rfl ?_)
 refine an (q := false) rfl (bH [] [9, 4, 5, 6, 7, 0, 1, 2] (by kernel_rfl) rfl rfl rfl rfl (jO false false a1 a2 a3 v5_2 v2_0 v2_1 v3_2 v3_3) ?_)
 rintro _ _ _ ⟨rfl, ta, rfl, hta, rfl⟩
 refine aST ?_
 refine aA rfl (aNn (aSR (aU rfl (ah 8 tk79 rfl rfl rfl) (aU rfl (ah 3 tk61 rfl rfl rfl) ?_))))
 refine an (q := true) rfl (cB (zs := [.string .empty, .slice none 0 0, .slice none 0 0, .slice none 0 0, .slice none 0 0, .slice none 0 0, .slice none 0 0, .slice none 0 0, .slice none 0 0, .slice none 0 0, .slice none 0 0]) (l := [(0, .tmp 24)]) el22 (by kernel_rfl) (by decide) (by decide) (by decide) rfl rfl rfl (.more rfl (.v rfl (.v rfl (.v rfl (.v rfl (.v rfl (.v rfl (.v rfl (.v rfl (.v rfl (.v rfl (.v rfl .nil))))))))))) .nil) rfl rfl (fun v6_2 => ?_))
 refine aHN ?_
 refine aM rfl (aM rfl ?_)
 refine an (q := false) rfl (bH [] [11, 4, 5, 6, 7, 0, 1, 2] (by kernel_rfl) rfl rfl rfl rfl (uT a1 a2 a3 v6_2 v2_0 v2_1 v3_2 v3_3) ?_)
 rintro _ _ _ ⟨rfl, aw, cw, rfl, rfl⟩
 refine aST ?_
 refine aA rfl (aNn (aSR ?_))
 refine aU rfl (dz (l := [(1, .const (.bool true)), (4, .const (.string ⟨#[109, 97, 105, 110]⟩))]) (zs := [.string .empty, .bool false, .slice none 0 0, .slice none 0 0, .string .empty, .int .i64 0, .slice none 0 0]) (pl := [(0, 1), (1, 1), (2, 1), (3, 1), (4, 1), (5, 1), (6, 1)]) (by kernel_rfl) (by kernel_rfl) (by kernel_rfl) rfl rfl rfl) ?_
 refine aU rfl (ah 3 tk61 rfl rfl rfl) ?_
 refine an (q := true) rfl (cB (zs := [.string .empty, .slice none 0 0, .slice none 0 0, .slice none 0 0, .slice none 0 0, .slice none 0 0, .slice none 0 0, .slice none 0 0, .slice none 0 0, .slice none 0 0, .slice none 0 0]) (l := [(0, .tmp 30)]) el22 (by kernel_rfl) (by decide) (by decide) (by decide) rfl rfl rfl (.more rfl (.v rfl (.v rfl (.v rfl (.v rfl (.v rfl (.v rfl (.v rfl (.v rfl (.v rfl (.v rfl (.v rfl .nil))))))))))) .nil) rfl rfl (fun v7_2 => ?_))
 refine aHN ?_
 refine aM rfl (aM rfl ?_)
 refine an (q := false) rfl (bH [] [13, 4, 5, 6, 7, 0, 1, 2] (by kernel_rfl) rfl rfl rfl rfl (jO true false a1 a2 a3 v7_2 v2_0 v2_1 v3_2 v3_3) ?_)
 rintro _ _ _ ⟨rfl, tl, rfl, htl, rfl⟩
 refine aST ?_
 refine aA rfl (aNs ?_)
 refine eH 0 rfl (by decide) (fun B cpo hvo => ?_)
 obtain ⟨rfl, _⟩ : a1 = some ⟨B, 0, none⟩ ∧ 3 = cpo := by simp at hvo; exact ⟨hvo.1, hvo.2.2⟩
 refine aj ?_
 refine aU rfl (qFA (off := 1) rfl) ?_
 refine aU rfl (ah 3 tk50 rfl rfl rfl) ?_
 refine aU rfl (fU 2 el50 rfl rfl rfl (show 2 < 3 by decide)) ?_
 refine aU rfl (qFA (off := 5) rfl) ?_
 refine an (q := false) rfl (eK 0 2 5 tk4 rfl rfl rfl rfl rfl (.v rfl .nil) rfl (by decide) ?_)
 refine aNs (nq (hp' := bg (.slice (some ⟨B, 0, none⟩) 3 3) 85 6 ((pM true).map cG.row) :: _) rfl (aj (aU rfl (ah 8 tk79 rfl rfl rfl) (aU rfl (ah 3 tk61 rfl rfl rfl) ?_))))
 refine an (q := true) rfl (cB (zs := [.string .empty, .slice none 0 0, .slice none 0 0, .slice none 0 0, .slice none 0 0, .slice none 0 0, .slice none 0 0, .slice none 0 0, .slice none 0 0, .slice none 0 0, .slice none 0 0]) (l := [(0, .tmp 40)]) el22 (by kernel_rfl) (by decide) (by decide) (by decide) rfl rfl rfl (.more rfl (.v rfl (.v rfl (.v rfl (.v rfl (.v rfl (.v rfl (.v rfl (.v rfl (.v rfl (.v rfl (.v rfl .nil))))))))))) .nil) rfl rfl (fun v9_2 => ?_))
 refine aHN ?_
 refine aM rfl (aM rfl ?_)
 refine an (q := false) rfl (bH [] [15, 4, 5, 6, 7, 0, 1, 2] (by kernel_rfl) rfl rfl rfl rfl (jO false true (some ⟨B, 0, none⟩) a2 a3 v9_2 v2_0 v2_1 v3_2 v3_3) ?_)
 rintro _ _ _ ⟨rfl, tb, rfl, htb, rfl⟩
 refine aST ?_
 refine aA rfl (aNs (aH (fN 12 rfl (eC 10 (fK ta) rfl (fun w S F h => (fK ta).mono h (fun _ _ => rfl) (fun b hb => .inr hb)) (eC 14 (fK tl) rfl (fun w S F h => (fK tl).mono h (fun _ _ => rfl) (fun b hb => .inr hb)) ?_)))))
 refine eC 16 (fK tb) rfl (fun w S F h => (fK tb).mono h (fun _ _ => rfl) (fun b hb => .inr hb)) (aj (aM rfl (aU rfl (aZ Tryz.underlying130 rfl) (aU rfl (dB rfl rfl) (aM rfl (aG rfl rfl (fun hc => aD rfl) ?_))))))
 refine cJ _ rfl rfl (fun hc => av Tryz.underlying130 tk133 (ae rfl hc) ((.of (aF 3 rfl))) rfl (show _ = some [D.v (.int .i64 0), D.v (.int .i64 0)] from rfl) rfl rfl) (fun _ => ⟨(0, 0)⟩) (fun ⟨b10_5, o10_5⟩ => ?_)
 refine aG rfl rfl (fun hc => aP (o := 0) tk133 (ae rfl hc) (aF 0 rfl) hc rfl) ?_
 refine aG rfl rfl (fun hc => dz (l := []) (zs := [.int .i64 0, .int .i64 0]) (pl := [(0, 1), (1, 1)]) (by kernel_rfl) (by kernel_rfl) (by kernel_rfl) rfl rfl rfl) ?_
 refine aG rfl rfl (fun hc => yY (by kernel_rfl) (by kernel_rfl) (by kernel_rfl) (fun w => iD 9998 _ _ _ w (by kernel_rfl) rfl rfl) (ae rfl hc) (ae rfl hc)) ?_
 refine aU rfl (bY rfl rfl (fun h => gf rfl h)) (aM rfl (aG rfl rfl (fun hc => aD rfl) ?_))
 refine cJ _ rfl rfl (fun hc => av Tryz.underlying130 tk133 (ae rfl hc) ((.of (aF 4 rfl))) rfl (show _ = some [D.v (.int .i64 0), D.v (.int .i64 1)] from rfl) rfl rfl) (fun _ => ⟨(0, 0)⟩) (fun ⟨b10_12, o10_12⟩ => ?_)
 refine aG rfl rfl (fun hc => aP (o := 0) tk133 (ae rfl hc) (aF 0 rfl) hc rfl) ?_
 refine aG rfl rfl (fun hc => dz (l := [(1, .const (.int .i64 1))]) (zs := [.int .i64 0, .int .i64 0]) (pl := [(0, 1), (1, 1)]) (by kernel_rfl) (by kernel_rfl) (by kernel_rfl) rfl rfl rfl) ?_
 refine aG rfl rfl (fun hc => yY (by kernel_rfl) (by kernel_rfl) (by kernel_rfl) (fun w => iD 9998 _ _ _ w (by kernel_rfl) rfl rfl) (ae rfl hc) (ae rfl hc)) ?_
 refine aU rfl (bY rfl rfl (fun h => gf rfl h)) (aNn ?_)
 refine al _ rfl (fun h1 => ?_) (fun h1 => ?_)
 ·skip
  exact absurd h1 (by decide)
 ·skip
  refine aq (az (aSR (aM rfl ?_)))
  refine an (q := true) rfl (cB (zs := [.bool false]) (l := [(0, .const (.bool true)), (1, .const (.bool true)), (2, .const (.bool false))]) el68 (by kernel_rfl) (by decide) (by decide) (by decide) rfl rfl rfl (.more rfl (.v rfl .nil) (.more rfl (.v rfl .nil) (.more rfl (.v rfl .nil) .nil))) rfl rfl (fun v12_1 => ?_))
  refine aHN ?_
  refine an (q := true) rfl (cB (zs := [.slice none 0 0]) (l := [(0, .tmp 63)]) el27 (by kernel_rfl) (by decide) (by decide) (by decide) rfl rfl rfl (.more rfl (.v rfl .nil) .nil) rfl rfl (fun v12_2 => ?_))
  refine aHN ?_
  refine an (q := false) rfl (bH [1] [17, 18] (by kernel_rfl) rfl rfl rfl rfl (jx ta true true false hta v12_1 v12_2) ?_)
  rintro _ _ _ ⟨rfl, rfl, rfl⟩
  refine aST ?_
  refine aM rfl (aM rfl ?_)
  refine an (q := true) rfl (cB (zs := [.bool false]) (l := [(0, .const (.bool true)), (1, .const (.bool true)), (2, .const (.bool true))]) el68 (by kernel_rfl) (by decide) (by decide) (by decide) rfl rfl rfl (.more rfl (.v rfl .nil) (.more rfl (.v rfl .nil) (.more rfl (.v rfl .nil) .nil))) rfl rfl (fun v12_6 => ?_))
  refine aHN ?_
  refine an (q := true) rfl (cB (zs := [.slice none 0 0]) (l := [(0, .tmp 68)]) el27 (by kernel_rfl) (by decide) (by decide) (by decide) rfl rfl rfl (.more rfl (.v rfl .nil) .nil) rfl rfl (fun v12_7 => ?_))
  refine aHN ?_
  refine an (q := false) rfl (bH [3] [19, 20] (by kernel_rfl) rfl rfl rfl rfl (jx tb true true true htb v12_6 v12_7) ?_)
  rintro _ _ _ ⟨rfl, rfl, rfl⟩
  refine aST ?_
  refine aU rfl (bJ rfl rfl (fun _ => rfl)) (aM rfl (aM rfl ?_))
  refine an (q := true) rfl (cB (zs := [.bool false]) (l := [(0, .const (.bool false)), (1, .const (.bool false)), (2, .const (.bool false))]) el68 (by kernel_rfl) (by decide) (by decide) (by decide) rfl rfl rfl (.more rfl (.v rfl .nil) (.more rfl (.v rfl .nil) (.more rfl (.v rfl .nil) .nil))) rfl rfl (fun v12_12 => ?_))
  refine aHN ?_
  refine an (q := true) rfl (cB (zs := [.slice none 0 0]) (l := [(0, .tmp 74)]) el27 (by kernel_rfl) (by decide) (by decide) (by decide) rfl rfl rfl (.more rfl (.v rfl .nil) .nil) rfl rfl (fun v12_13 => ?_))
  refine aHN ?_
  refine an (q := false) rfl (bH [2] [21, 22] (by kernel_rfl) rfl rfl rfl rfl (jx tl false false false htl v12_12 v12_13) ?_)
  rintro _ _ _ ⟨rfl, rfl, rfl⟩
  refine aST ?_
  refine aU rfl (bJ rfl rfl (fun _ => rfl)) (aA rfl (aNn (aJ ?_)))
  refine br [] [] rfl Tryz.results24 rfl ?_ (.inr rfl)
  rfl
end Go.Proofs.YtgmiihmahaahiaaGreatDoor

