/- Parts of the proof, in build order. No condition. -/
import Derived.Test.YtgmiihmahaahiaaGreatDoorQd09
import Derived.Test.YtgmiihmahaahiaaGreatDoorQd03
import Derived.Test.YtgmiihmahaahiaaGreatDoorQd08
import Derived.Test.YtgmiihmahaahiaaGreatDoorQd06
import Derived.Test.YtgmiihmahaahiaaGreatDoorQd05
import Derived.Test.YtgmiihmahaahiaaGreatDoorQd07
import Derived.Test.YtgmiihmahaahiaaGreatDoorQd02
import Derived.OpenShut
import Derived.Test.YtgmiihmahaahiaaGreatDoorRows
import Derived.Test.YtgmiihmahaahiaaGreatDoorQd04
import Derived.WalkKit
import Derived.ProofKit
import Derived.ShutString
import Derived.ChangeOld
import Derived.Below
import Derived.LaidMore
import Derived.Stop.Joined
import Derived.Test.YtgmiihmahaahiaaGreatDoorProg
import Derived.Ground.NamesProg
import Derived.Shelf.Sort.Plain
import Derived.Ground.Names2Prog
import Derived.Shelf.Slices.CompactI
import Derived.Shelf.Slices.Clone
import Derived.Shelf.Slices.Reverse
set_option linter.unusedSimpArgs false
set_option linter.unusedVariables false
set_option maxHeartbeats 1000000
set_option maxRecDepth 20000
namespace Go.Proofs.YtgmiihmahaahiaaGreatDoor
open Go.RowKit Go.Lp Go.Sy
open Go.Proofs.Tryz
attribute [local irreducible] aL aB awp aC fwp
open Classical in
noncomputable def uZ (vs : List aW) (a b : ByteArray) : Bool := decide (Srv vs a b)
open Classical in
theorem tg {vs : List aW} {a b : ByteArray} : uZ vs a b = true ↔ Srv vs a b := by unfold uZ; exact decide_eq_true_iff
noncomputable def exR (f : cQ) (k : dw) (e : dT) : Bool := decide (e.name = k.1) && (if k.2 = .empty then e.main || decide (e.version = .empty) else uZ f.versions.l e.version k.2)
noncomputable def ifR (k : dw) (f : cQ) : Bool := f.exports.l.any (exR f k)
def aa1 (o : Option Nat) : Int := match o with
 | some i => i
 | none => -1
noncomputable def eY (ifs : List cQ) (n v : ByteArray) : Int := aa1 (ifs.findIdx? (ifR (n, v)))
theorem abe {α : Type} (p : α → Bool) (l : List α) : decide (aa1 (l.findIdx? p) ≥ 0) = l.any p := by
 cases h : l.findIdx? p with
 | none =>
   rw [List.findIdx?_eq_none_iff] at h
   have : l.any p = false := by rw [List.any_eq_false]; exact fun x hx => by rw [h x hx]; simp
   rw [this]; rfl
 | some i =>
   rw [List.findIdx?_eq_some_iff_getElem] at h
   obtain ⟨hi, h1, _⟩ := h
   have : l.any p = true := List.any_eq_true.2 ⟨_, List.getElem_mem hi, h1⟩
   rw [this, decide_eq_true_eq]; exact Int.natCast_nonneg i
theorem findIdx_take {α : Type} {p : α → Bool} {l : List α} {k : Nat} {a : α} (h : ∀ x ∈ l.take k, p x = false) (ha : l[k]? = some a) (hp : p a = true) : l.findIdx? p = some k := by
 obtain ⟨hk, rfl⟩ := List.getElem?_eq_some_iff.1 ha
 rw [List.findIdx?_eq_some_iff_getElem]
 refine ⟨hk, hp, fun j hj => ?_⟩
 rw [h _ (List.mem_take_iff_getElem.2 ⟨j, by omega, rfl⟩)]; simp
theorem sg (f : cQ) (a b : ByteArray) : Con Tryz.prog 22 [f.versions.val, .string a, .string b] [f.ok] [] fun r _ _ => r = .bool (uZ f.versions.l a b) :=
 (pf f.versions a b (uZ f.versions.l) (fun _ _ => tg)).pre fun p hp => by
   simp only [List.mem_cons, List.not_mem_nil, or_false] at hp
   rcases hp with rfl | rfl
   · exact cQ.f_versions (.of (aF 0 rfl))
   · exact cQ.f_versionsA (.of (aF 0 rfl))
theorem abQ (kb fb : Nat) (k : dw) (f : cQ) (e : dT) : Con Tryz.prog 195 [e.val, .pointer (some ⟨kb, 0, none⟩), .pointer (some ⟨fb, 0, none⟩)] [At kb 0 [.v (.string k.1), .v (.string k.2)], At fb 0 f.row, f.ok] [] (fun r _ _ => r = .bool (exR f k e)) := by
 obtain ⟨n, v⟩ := k
 refine Con.enter Tryz.func195 rfl (by simp [Tryz.ntmps195]) ?_
 show awp _ _ _ _ ⟨[(0, true, _), (1, true, _), (2, true, _)], _, _⟩
 refine aSR ?_
 refine an (q := true) rfl (cx rfl rfl rfl (fun b0_0 => ?_))
 refine aHN ?_
 refine aA rfl (aNs (aSR ?_))
 refine aU rfl (qFA (off := 0) rfl) ?_
 refine aU rfl (ah 0 tk9 rfl rfl rfl) ?_
 refine aU rfl (qFA (off := 0) rfl) ?_
 refine aU rfl (aN (o := 0) tk9 rfl (.of (aF 0 rfl)) rfl) (aU rfl (rf rfl rfl) (aNn ?_))
 refine al _ rfl (fun h1 => ?_) (fun h1 => ?_)
 ·skip
  have c1 : ¬ e.name = n := by simpa using h1
  refine aSR (aA rfl (aNn (aJ (aO ?_))))
  refine br [] [] rfl Tryz.results195 rfl ?_ (.inr rfl)
  unfold exR; rw [decide_eq_false c1]; rfl
 ·skip
  have c1 : e.name = n := by simpa using h1
  refine aq (az (aH (aSR ?_)))
  refine aU rfl (qFA (off := 1) rfl) ?_
  refine aU rfl (aN (o := 1) tk9 rfl (.of (aF 0 rfl)) rfl) (aU rfl (eE rfl rfl) (aNn ?_))
  refine al _ rfl (fun h2 => ?_) (fun h2 => ?_)
  ·skip
   have c2 : v = .empty := of_decide_eq_true h2
   refine aSR ?_
   refine aU rfl (qFA (off := 2) rfl) ?_
   refine aU rfl (ah 0 tk4 rfl rfl rfl) (aM rfl ?_)
   refine aG rfl rfl (fun hc => qFA (off := 1) rfl) ?_
   refine aG rfl rfl (fun hc => ah 0 tk9 (ae rfl hc) rfl rfl) (aG rfl rfl (fun hc => eE (ae rfl hc) rfl) (aU rfl (bY rfl rfl (fun h => gf rfl h)) (aA rfl (aNn (aJ (aO ?_))))))
   refine br [] [] rfl Tryz.results195 rfl ?_ (.inr rfl)
   unfold exR; rw [decide_eq_true c1, if_pos c2]; rfl
  ·skip
   have c2 : ¬ v = .empty := of_decide_eq_false h2
   refine aq (az (aSR ?_))
   refine aU rfl (qFA (off := 2) rfl) ?_
   refine aU rfl (aN (o := 2) tk24 rfl (.of (aF 1 rfl)) rfl) ?_
   refine aU rfl (qFA (off := 1) rfl) ?_
   refine aU rfl (ah 0 tk9 rfl rfl rfl) ?_
   refine aU rfl (qFA (off := 1) rfl) ?_
   refine aU rfl (aN (o := 1) tk9 rfl (.of (aF 0 rfl)) rfl) ?_
   refine aU rfl (bC (by kernel_rfl) rfl (fun w S fp hst => (sg f e.version v).quiet1 (aF 2 rfl) hst)) ?_
   refine aA rfl (aNn (aJ ?_))
   refine br [] [] rfl Tryz.results195 rfl ?_ (.inr rfl)
   unfold exR; rw [decide_eq_true c1, if_neg c2]; rfl
theorem mR (l : Sl dT) (F : FuncId) (caps : List Value) (p : Per) (g : dT → Bool) (hF : e8 Tryz.prog F = true) (h : ∀ a ∈ l.l, Con Tryz.prog F (a.val :: caps) [p] [] (fun r _ _ => r = .bool (g a))) : Con Tryz.prog 260 [l.val, .func (.func F) #[] caps.toArray] [ShF dT.row l, p] []
   (fun r _ _ => r = .int .i64 (aa1 (l.l.findIdx? g))) := by
 refine Con.enter Tryz.func260 rfl (by simp [Tryz.ntmps260]) ?_
 show awp _ _ _ _ ⟨[(0, true, _), (1, true, _)], _, _⟩
 refine bA (.of (aF 0 rfl)) (fun hlen => ?_)
 refine aSR (aA rfl (aNs (aSR (aM rfl (aU rfl (aZ Tryz.underlying71 rfl) (aM rfl (aNn (aI ?_))))))))
 refine aT [0, 1, 7, 8] [1, 0] [] (fun (k : Nat) s => (k ≤ l.l.length ∧ ∀ a ∈ l.l.take k, g a = false) ∧ s = ⟨[(0, true, l.val), (1, true, .func (.func F) #[] caps.toArray), (7, true, .int .i64 l.l.length), (8, true, .int .i64 k)], [ShF dT.row l, p], []⟩) (fun k => l.l.length - k) rfl (⟨0, ⟨Nat.zero_le _, fun a ha => by cases ha⟩, rfl⟩) ?_
 rintro k s ⟨⟨hk, hno⟩, rfl⟩
 refine aSR (aU rfl (bw rfl rfl) (aNs ?_))
 refine al _ rfl (fun h1 => ?_) (fun h1 => ?_)
 ·skip
  have hk' : k < l.l.length := by simpa using h1
  obtain ⟨a, ha⟩ : ∃ a, l.l[k]? = some a := ⟨l.l[k]'hk', by simp⟩
  refine aq (az (aH (aI (aSR (aM rfl (aA rfl (aNn (aSR (aM rfl (aM rfl (aM rfl ?_)))))))))))
  refine cJ true rfl rfl (fun _ => av Tryz.underlying71 tk128 rfl ((.of (aF 0 rfl))) rfl (aQ ha) rfl rfl) (fun h => absurd h (by decide)) (fun ⟨b4_3, o4_3⟩ => ?_)
  refine aU rfl (aP (o := 0) tk128 rfl (aF 0 rfl) rfl rfl) (aU rfl (jX hF rfl rfl (fun w S fp hst => (h a (List.mem_of_getElem? ha)).quiet1 (aF 2 rfl) hst)) (aNn ?_))
  refine al _ rfl (fun h2 => ?_) (fun h2 => ?_)
  ·skip
   refine aSR (aM rfl (aA rfl (aNn (aJ (bu (aO (aO (bu (aO ?_)))))))))
   refine br [] [] rfl Tryz.results260 rfl ?_ (.inr rfl)
   rw [findIdx_take hno ha h2]; rfl
  ·skip
   refine aq (bB (az (aj ?_)))
   refine aU rfl (bd rfl rfl (by omega)) ?_
   refine aM rfl (aNn ?_)
   refine ⟨[0, 1, 7, 8], [1, 0], [], rfl, ?_⟩
   refine ⟨k + 1, ⟨⟨by omega, ?_⟩, rfl⟩, by omega⟩
   intro y hy
   rw [List.take_add_one, ha, List.mem_append] at hy
   rcases hy with hy | hy
   · exact hno y hy
   · simp at hy; subst hy; exact h2
 ·skip
  refine aX (aY (aY (bf (az (aSR (aA rfl (aNn (aJ ?_))))))))
  refine br [] [] rfl Tryz.results260 rfl ?_ (.inr rfl)
  rw [List.take_of_length_le (by simpa using h1)] at hno
  rw [List.findIdx?_eq_none_iff.2 fun x hx => hno x hx]; rfl
theorem mP (l : Sl dT) (F : FuncId) (caps : List Value) (p : Per) (g : dT → Bool) (hF : e8 Tryz.prog F = true) (h : ∀ a ∈ l.l, Con Tryz.prog F (a.val :: caps) [p] [] (fun r _ _ => r = .bool (g a))) : Con Tryz.prog 194 [l.val, .func (.func F) #[] caps.toArray] [ShF dT.row l, p] []
   (fun r _ _ => r = .bool (l.l.any g)) := by
 refine Con.enter Tryz.func194 rfl (by simp [Tryz.ntmps194]) ?_
 show awp _ _ _ _ ⟨[(0, true, _), (1, true, _)], _, _⟩
 refine aSR (aA rfl (aNn (aSR (aM rfl (aM rfl ?_)))))
 refine aU rfl (bC (by kernel_rfl) rfl (fun w S fp hst => (mR l F caps p g hF h).quiet2 (aF 0 rfl) (aF 1 rfl) hst)) ?_
 refine aU rfl (eu rfl rfl) (aA rfl (aNn (aJ ?_)))
 refine br [] [] rfl Tryz.results194 rfl ?_ (.inr rfl)
 rw [← abe]
theorem aa3 (kb fb : Nat) (k : dw) (f : cQ) (e : dT) : Con Tryz.prog 195 [e.val, .pointer (some ⟨kb, 0, none⟩), .pointer (some ⟨fb, 0, none⟩)] [cA (At kb 0 [.v (.string k.1), .v (.string k.2)]) (cA (At fb 0 f.row) f.ok)] [] (fun r _ _ => r = .bool (exR f k e)) :=
 (abQ kb fb k f e).pre fun p hp => by
   simp only [List.mem_cons, List.not_mem_nil, or_false] at hp
   rcases hp with rfl | rfl | rfl
   · exact .left (.of (aF 0 rfl))
   · exact .left (.right (.of (aF 0 rfl)))
   · exact .right (.right (.of (aF 0 rfl)))
theorem xX (kb fb : Nat) (k : dw) (f : cQ) : Con Tryz.prog 194 [f.exports.val, .func (.func 195) #[] #[.pointer (some ⟨kb, 0, none⟩), .pointer (some ⟨fb, 0, none⟩)]] [At fb 0 f.row, At kb 0 [.v (.string k.1), .v (.string k.2)], f.ok] []
   (fun r _ _ => r = .bool (ifR k f)) :=
 (mP f.exports 195 [.pointer (some ⟨kb, 0, none⟩), .pointer (some ⟨fb, 0, none⟩)] _ (exR f k) (by kernel_rfl) (fun a _ => aa3 kb fb k f a)).pre fun p hp => by
   simp only [List.mem_cons, List.not_mem_nil, or_false] at hp
   rcases hp with rfl | rfl
   · exact cQ.f_exports (.of (aF 2 rfl))
   · exact .mk2 (.of (aF 1 rfl)) (.mk2 (.of (aF 0 rfl)) (.of (aF 2 rfl)))
theorem abI (kb : Nat) (k : dw) (f : cQ) : Con Tryz.prog 193 [f.val, .pointer (some ⟨kb, 0, none⟩)] [At kb 0 [.v (.string k.1), .v (.string k.2)], f.ok] [] (fun r _ _ => r = .bool (ifR k f)) := by
 refine Con.enter Tryz.func193 rfl (by simp [Tryz.ntmps193]) ?_
 show awp _ _ _ _ ⟨[(0, true, _), (1, true, _)], _, _⟩
 refine aSR ?_
 refine an (q := true) rfl (cx rfl rfl rfl (fun b0_0 => ?_))
 refine aHN ?_
 refine aA rfl (aNs (cX 0 rfl rfl ?_))
 show awp _ _ _ _ ⟨_, At _ 0 _ :: _, _⟩
 refine aj ?_
 refine aU rfl (qFA (off := 1) rfl) ?_
 refine aU rfl (aN (o := 1) tk71 rfl (.of (aF 0 rfl)) rfl) (aU rfl (im (l := [.tmp 1, .tmp 2]) rfl) ?_)
 refine aU rfl (bC (by kernel_rfl) rfl (fun w S fp hst => (xX kb b0_0 k f).rm (aF 0 rfl) (aF 1 rfl) (aF 2 rfl) hst)) ?_
 refine aA rfl (aNn (aJ ?_))
 refine br [] [] rfl Tryz.results193 rfl ?_ (.inr rfl)
 rfl
theorem pq (l : Sl cQ) (F : FuncId) (caps : List Value) (p : Per) (g : cQ → Bool) (hF : e8 Tryz.prog F = true) (h : ∀ a ∈ l.l, Con Tryz.prog F (a.val :: caps) [p] [] (fun r _ _ => r = .bool (g a))) : Con Tryz.prog 192 [l.val, .func (.func F) #[] caps.toArray] [ShF cQ.row l, p] []
   (fun r _ _ => r = .int .i64 (aa1 (l.l.findIdx? g))) := by
 refine Con.enter Tryz.func192 rfl (by simp [Tryz.ntmps192]) ?_
 show awp _ _ _ _ ⟨[(0, true, _), (1, true, _)], _, _⟩
 refine bA (.of (aF 0 rfl)) (fun hlen => ?_)
 refine aSR (aA rfl (aNs (aSR (aM rfl (aU rfl (aZ Tryz.underlying23 rfl) (aM rfl (aNn (aI ?_))))))))
 refine aT [0, 1, 7, 8] [1, 0] [] (fun (k : Nat) s => (k ≤ l.l.length ∧ ∀ a ∈ l.l.take k, g a = false) ∧ s = ⟨[(0, true, l.val), (1, true, .func (.func F) #[] caps.toArray), (7, true, .int .i64 l.l.length), (8, true, .int .i64 k)], [ShF cQ.row l, p], []⟩) (fun k => l.l.length - k) rfl (⟨0, ⟨Nat.zero_le _, fun a ha => by cases ha⟩, rfl⟩) ?_
 rintro k s ⟨⟨hk, hno⟩, rfl⟩
 refine aSR (aU rfl (bw rfl rfl) (aNs ?_))
 refine al _ rfl (fun h1 => ?_) (fun h1 => ?_)
 ·skip
  have hk' : k < l.l.length := by simpa using h1
  obtain ⟨a, ha⟩ : ∃ a, l.l[k]? = some a := ⟨l.l[k]'hk', by simp⟩
  refine aq (az (aH (aI (aSR (aM rfl (aA rfl (aNn (aSR (aM rfl (aM rfl (aM rfl ?_)))))))))))
  refine cJ true rfl rfl (fun _ => av Tryz.underlying23 tk73 rfl ((.of (aF 0 rfl))) rfl (aQ ha) rfl rfl) (fun h => absurd h (by decide)) (fun ⟨b4_3, o4_3⟩ => ?_)
  refine aU rfl (aP (o := 0) tk73 rfl (aF 0 rfl) rfl rfl) (aU rfl (jX hF rfl rfl (fun w S fp hst => (h a (List.mem_of_getElem? ha)).quiet1 (aF 2 rfl) hst)) (aNn ?_))
  refine al _ rfl (fun h2 => ?_) (fun h2 => ?_)
  ·skip
   refine aSR (aM rfl (aA rfl (aNn (aJ (bu (aO (aO (bu (aO ?_)))))))))
   refine br [] [] rfl Tryz.results192 rfl ?_ (.inr rfl)
   rw [findIdx_take hno ha h2]; rfl
  ·skip
   refine aq (bB (az (aj ?_)))
   refine aU rfl (bd rfl rfl (by omega)) ?_
   refine aM rfl (aNn ?_)
   refine ⟨[0, 1, 7, 8], [1, 0], [], rfl, ?_⟩
   refine ⟨k + 1, ⟨⟨by omega, ?_⟩, rfl⟩, by omega⟩
   intro y hy
   rw [List.take_add_one, ha, List.mem_append] at hy
   rcases hy with hy | hy
   · exact hno y hy
   · simp at hy; subst hy; exact h2
 ·skip
  refine aX (aY (aY (bf (az (aSR (aA rfl (aNn (aJ ?_))))))))
  refine br [] [] rfl Tryz.results192 rfl ?_ (.inr rfl)
  rw [List.take_of_length_le (by simpa using h1)] at hno
  rw [List.findIdx?_eq_none_iff.2 fun x hx => hno x hx]; rfl
theorem aaS (ifs : Sl cQ) (kb : Nat) (k : dw) (f : cQ) (hf : f ∈ ifs.l) : Con Tryz.prog 193 [f.val, .pointer (some ⟨kb, 0, none⟩)] [cA (At kb 0 [.v (.string k.1), .v (.string k.2)]) (cv cQ.ok ifs.l)] [] (fun r _ _ => r = .bool (ifR k f)) :=
 (abI kb k f).pre fun p hp => by
   simp only [List.mem_cons, List.not_mem_nil, or_false] at hp
   rcases hp with rfl | rfl
   · exact .left (.of (aF 0 rfl))
   · exact .allm (.right (.of (aF 0 rfl))) hf
theorem aao (x : cm) (kb : Nat) (k : dw) : Con Tryz.prog 192 [x.ifs.val, .func (.func 193) #[] #[.pointer (some ⟨kb, 0, none⟩)]] [At kb 0 [.v (.string k.1), .v (.string k.2)], x.ok] []
   (fun r _ _ => r = .int .i64 (eY x.ifs.l k.1 k.2)) :=
 (pq x.ifs 193 [.pointer (some ⟨kb, 0, none⟩)] _ (ifR k) (by kernel_rfl) (fun a ha => aaS x.ifs kb k a ha)).pre fun p hp => by
   simp only [List.mem_cons, List.not_mem_nil, or_false] at hp
   rcases hp with rfl | rfl
   · exact cm.f_ifs (.of (aF 1 rfl))
   · exact .mk2 (.of (aF 0 rfl)) (cm.f_ifsA (.of (aF 1 rfl)))
theorem tH (x : cm) (lb : Nat) (n v : ByteArray) : Con Tryz.prog 92 [.pointer (some ⟨lb, 0, none⟩), cI (n, v)] [At lb 0 x.row, x.ok] [] (fun r _ _ => r = .int .i64 (eY x.ifs.l n v)) := by
 refine Con.enter Tryz.func92 rfl (by simp [Tryz.ntmps92]) ?_
 show awp _ _ _ _ ⟨[(0, true, _), (1, true, _)], _, _⟩
 refine aSR ?_
 refine an (q := true) rfl (cx rfl rfl rfl (fun b0_0 => ?_))
 refine aHN ?_
 refine aA rfl (aNs (cX 0 rfl rfl ?_))
 show awp _ _ _ _ ⟨_, At _ 0 _ :: _, _⟩
 refine aj (aM rfl (aU rfl (aR rfl) ?_))
 refine aU rfl (qFA (off := 3) rfl) ?_
 refine aU rfl (aN (o := 3) tk23 rfl (.of (aF 1 rfl)) rfl) (aU rfl (im (l := [.tmp 3]) rfl) ?_)
 refine aU rfl (bC (by kernel_rfl) rfl (fun w S fp hst => (aao x b0_0 (n, v)).quiet2 (aF 0 rfl) (aF 2 rfl) hst)) ?_
 refine aA rfl (aNn (aJ ?_))
 refine br [] [] rfl Tryz.results92 rfl ?_ (.inr rfl)
 rfl
end Go.Proofs.YtgmiihmahaahiaaGreatDoor

namespace Go.Proofs.YtgmiihmahaahiaaGreatDoor
open Go.RowKit Go.Lp Go.Sy
open Go.Proofs.Tryz
attribute [local irreducible] aL aB awp aC fwp
theorem zR (x : cm) (n : ByteArray) : Con Tryz.prog 16 [x.objs.val, .string n] [x.ok] [] (fun r _ _ => r = .int .i64 (iu (bQ x.objs.l) n)) :=
 (v7 x.objs n).pre fun p hp => by
   simp only [List.mem_cons, List.not_mem_nil, or_false] at hp
   rcases hp with rfl | rfl
   · exact cm.f_objs (.of (aF 0 rfl))
   · exact cm.f_objsA (.of (aF 0 rfl))
theorem vi (x : cm) (hok : jv x.objs.l x.kp.l) (lb : Nat) (L : List Dfn) (st : CS) (mM : ByteArray → Option aK) (hF : mB x L st mM) (SV : ByteArray → ByteArray → Bool) (hSV : ∀ p q, SV p q = true ↔ Srv x.vs.l p q) (d : Dfn) (hd : InD x.objs.l d) :
   Con Tryz.prog 38 [.pointer (some ⟨lb, 0, none⟩), d.p.val, d.s.val] [At lb 0 x.row, x.ok, x.fin L st mM] [] (fun r ps hp => ps = [] ∧ hp = [] ∧ ∃ c : bq, r = .tuple #[c.val, .bool (cC x.kp.l L SV (eY x.ifs.l) x.lib d).isSome] ∧ ((cC x.kp.l L SV (eY x.ifs.l) x.lib d).getD gX) = c) := by
 obtain ⟨i, k, hi, hk, hpd⟩ := hd
 obtain ⟨p, s⟩ := d
 dsimp only at hk hpd
 subst hpd
 have ho := bM hi
 have hkn := hok.kn
 have hkp := bM (l := x.kp.l) (i := i) (by omega)
 have hks := hok.ks i hi
 have hsec := hok.sec _ (List.mem_of_getElem? ho) s (List.mem_of_getElem? hk)
 refine Con.enter Tryz.func38 rfl (by simp [Tryz.ntmps38]) ?_
 show awp _ _ _ _ ⟨[(0, true, _), (1, true, _), (2, true, _)], _, _⟩
 refine aSR ?_
 refine an (q := true) rfl (cx rfl rfl rfl (fun b0_0 => ?_))
 refine aHN ?_
 refine an (q := true) rfl (cx rfl rfl rfl (fun b0_1 => ?_))
 refine aHN ?_
 refine an (q := true) rfl (bc (zs := [.int .i64 0, .int .i64 0, .int .i64 0, .int .i64 0, .int .i64 0, .bool false]) (by kernel_rfl) rfl (fun b0_2 => ?_))
 refine aHN ?_
 refine aA rfl (aNs (aSR ?_))
 refine aU rfl (qFA (off := 3) rfl) ?_
 refine aU rfl (ah 1 tk3 rfl rfl rfl) (aU rfl (bx rfl rfl) (aNn ?_))
 refine al _ rfl (fun h1 => ?_) (fun h1 => ?_)
 ·skip
  have c1 : s.bind = 0 := by simpa using h1
  refine aH (aH ?_)
  refine bp [] (by kernel_rfl) ?_
  show aB _ _ _ _ _ 13 #[false, false, false, false, false, false, false, false, false, false, false, false, false] _
  refine bV 0 rfl rfl (aD rfl) ?_
  refine bV 1 rfl rfl (aR rfl) ?_
  refine bV 2 rfl rfl (qFA (off := 1) rfl) ?_
  refine bV 3 rfl rfl (aN (o := 1) tk27 rfl (.of (aF 0 rfl)) rfl) ?_
  refine bV 4 rfl rfl (qFA (off := 0) rfl) ?_
  refine bV 5 rfl rfl (ah 0 tk3 rfl rfl rfl) ?_
  refine dC 6 rfl (by kernel_rfl) true rfl rfl (fun _ => av Tryz.underlying27 tk68 rfl ((cm.f_kp (.of (aF 1 rfl)))) rfl (aQ hkp) rfl rfl) (fun h => absurd h (by decide)) (fun ⟨b2_6, o2_6⟩ => ?_)
  refine bV 7 rfl rfl (aP (o := 0) tk68 rfl (aF 0 rfl) rfl rfl) ?_
  refine bV 8 rfl rfl (qFA (off := 6) rfl) ?_
  refine bV 9 rfl rfl (ah 1 tk3 rfl rfl rfl) ?_
  refine dC 10 rfl (by kernel_rfl) true rfl rfl (fun _ => av Tryz.underlying68 tk4 rfl ((Ent.all (f := ShF bR) (cm.f_kpA (.of (aF 2 rfl))) hkp)) rfl (bI (i := s.sec) (by omega) (by omega)) (by omega) rfl) (fun h => absurd h (by decide)) (fun ⟨b2_10, o2_10⟩ => ?_)
  refine bV 11 rfl rfl (aP (o := 0) tk4 rfl (aF 0 rfl) rfl rfl) ?_
  refine bV 12 rfl rfl (bZ rfl) ?_
  refine bO (by kernel_rfl) ?_
  refine az ?_
  refine al _ rfl (fun h2 => ?_) (fun h2 => ?_)
  ·skip
   have c2 : ¬ oH x.kp.l i s.sec = true := by unfold oH; simpa using h2
   refine aSR ?_
   refine aU rfl (dz (l := []) (zs := [.int .i64 0, .int .i64 0, .int .i64 0, .int .i64 0, .int .i64 0, .bool false]) (pl := [(0, 1), (1, 1), (2, 1), (3, 1), (4, 1), (5, 1)]) (by kernel_rfl) (by kernel_rfl) (by kernel_rfl) rfl rfl rfl) ?_
   refine an rfl (aV 2 tk65 rfl rfl rfl rfl ?_)
   refine aHK ?_
   refine aA rfl (aNn (aJ (aO (aO ?_))))
   refine fS [] [] rfl Tryz.results38 (cV 2 tk65 rfl rfl rfl) (dV rfl) ?_ (.inr rfl)
   have hC : cC x.kp.l L SV (eY x.ifs.l) x.lib ⟨⟨i, k⟩, s⟩ = some gX := by unfold cC; rw [if_pos c1, if_neg c2]
   exact ⟨rfl, rfl, gX, by rw [hC]; rfl, by rw [hC]; rfl⟩
  ·skip
   have c2 : oH x.kp.l i s.sec = true := by unfold oH; simpa using h2
   refine aq (az (aSR ?_))
   refine aU rfl (qFA (off := 0) rfl) ?_
   refine aU rfl (ah 0 tk3 rfl rfl rfl) ?_
   refine aU rfl (qFA (off := 1) rfl) ?_
   refine aU rfl (ah 0 tk3 rfl rfl rfl) ?_
   refine aU rfl (dz (l := [(0, .const (.int .i64 1)), (1, .tmp 31), (2, .tmp 33), (4, .const (.int .i64 0))]) (zs := [.int .i64 0, .int .i64 0, .int .i64 0, .int .i64 0, .int .i64 0, .bool false]) (pl := [(0, 1), (1, 1), (2, 1), (3, 1), (4, 1), (5, 1)]) (by kernel_rfl) (by kernel_rfl) (by kernel_rfl) rfl rfl rfl) ?_
   refine an rfl (aV 2 tk65 rfl rfl rfl rfl ?_)
   refine aHK ?_
   refine aA rfl (aNn (aJ (aO ?_)))
   refine fS [] [] rfl Tryz.results38 (cV 2 tk65 rfl rfl rfl) (dV rfl) ?_ (.inr rfl)
   have hC : cC x.kp.l L SV (eY x.ifs.l) x.lib ⟨⟨i, k⟩, s⟩ = some ⟨1, i, k, 0, 0, false⟩ := by unfold cC; rw [if_pos c1, if_pos c2]
   exact ⟨rfl, rfl, (⟨1, (i : Int), (k : Int), 0, 0, false⟩ : bq), by rw [hC]; rfl, by rw [hC]; rfl⟩
 ·skip
  have c1 : ¬ s.bind = 0 := by simpa using h1
  refine aq (az (aSR ?_))
  refine aU rfl (qFA (off := 0) rfl) ?_
  refine aU rfl (ah 1 tk9 rfl rfl rfl) ?_
  refine aU rfl (qFA (off := 1) rfl) ?_
  refine aU rfl (ah 1 tk9 rfl rfl rfl) ?_
  refine aU rfl (dz (l := [(0, .tmp 36), (1, .tmp 38)]) (zs := [.string .empty, .string .empty]) (pl := [(0, 1), (1, 1)]) (by kernel_rfl) (by kernel_rfl) (by kernel_rfl) rfl rfl rfl) ?_
  refine an (q := true) rfl (bc (zs := [.string .empty, .string .empty]) (by kernel_rfl) rfl (fun b5_5 => ?_))
  refine aHN ?_
  refine an rfl (aV 3 tk157 rfl rfl rfl rfl ?_)
  refine aHK ?_
  refine aNs (aSR (aM rfl (aU rfl (ah 3 tk157 rfl rfl rfl) ?_)))
  refine an (q := true) rfl (bH [2, 1, 0] [] (by kernel_rfl) rfl rfl rfl rfl (y4 x hok lb L st mM hF SV hSV s.name s.version) ?_)
  rintro _ _ _ ⟨rfl, rfl, q, rfl, hfe⟩
  refine aST ?_
  refine aM rfl (aU rfl (bD rfl rfl) (aU rfl (bD rfl rfl) ?_))
  refine an (q := true) rfl (bc (zs := [.int .i64 0, .int .i64 0]) (by kernel_rfl) rfl (fun b6_6 => ?_))
  refine aHN ?_
  refine an rfl (aV 4 tk34 rfl rfl rfl rfl ?_)
  refine aHK ?_
  refine aA rfl (aNn (aSR (aM rfl (aNn ?_))))
  refine al _ rfl (fun h3 => ?_) (fun h3 => ?_)
  ·skip
   obtain ⟨e, he⟩ : ∃ e, fP x.kp.l L SV s.name s.version = some e := Option.isSome_iff_exists.1 h3
   obtain ⟨he1, _, _⟩ := oG hF.asc he
   obtain rfl := hfe e he
   refine aH ?_
   refine cP [24] [24] [b0_0, b0_1, b5_5] (by kernel_rfl) ?_
   show aC _ _ _ _ _ _ _ 25 #[false, false, false, false, false, false, false, false, false, false, false, false, false, false, false, false, false, false, false, false, false, false, false, false, false] _
   refine bt 0 rfl (by kernel_rfl) true rfl rfl (fun _ => qFA (off := 0) rfl) ?_
   refine mO 1 rfl (by kernel_rfl) true rfl rfl (fun _ => ah 4 tk3 rfl rfl rfl) ?_
   refine bt 2 rfl (by kernel_rfl) true rfl rfl (fun _ => qFA (off := 1) rfl) ?_
   refine mO 3 rfl (by kernel_rfl) true rfl rfl (fun _ => ah 4 tk3 rfl rfl rfl) ?_
   refine bt 4 rfl (by kernel_rfl) true rfl rfl (fun _ => aD rfl) ?_
   refine db 5 1 rfl (by kernel_rfl) true rfl rfl (by simp) tk63 (fun _ => rfl) rfl rfl ?_
   refine mO 6 rfl (by kernel_rfl) true rfl rfl (fun _ => ah 4 tk34 rfl rfl rfl) ?_
   refine bt 7 rfl (by kernel_rfl) true rfl rfl (fun _ => bC (by kernel_rfl) rfl (fun w S fp hst => (aaO x hok lb L st mM hF s e he1).rm (aF 0 rfl) (aF 1 rfl) (aF 2 rfl) hst)) ?_
   refine bt 8 rfl (by kernel_rfl) true rfl rfl (fun _ => aD rfl) ?_
   refine bt 9 rfl (by kernel_rfl) true rfl rfl (fun _ => aR rfl) ?_
   refine bt 10 rfl (by kernel_rfl) true rfl rfl (fun _ => qFA (off := 2) rfl) ?_
   refine bt 11 rfl (by kernel_rfl) true rfl rfl (fun _ => aN (o := 2) tk4 rfl (.of (aF 0 rfl)) rfl) ?_
   refine bt 12 rfl (by kernel_rfl) true rfl rfl (fun _ => aD rfl) ?_
   refine bt 13 rfl (by kernel_rfl) _ rfl rfl (fun hc => aD rfl) ?_
   refine bt 14 rfl (by kernel_rfl) _ rfl rfl (fun hc => aR (ae rfl hc)) ?_
   refine bt 15 rfl (by kernel_rfl) _ rfl rfl (fun hc => qFA (off := 0) (ae rfl hc)) ?_
   refine bt 16 rfl (by kernel_rfl) _ rfl rfl (fun hc => aN (o := 0) tk22 (ae rfl hc) (.of (aF 0 rfl)) rfl) ?_
   refine bt 17 rfl (by kernel_rfl) _ rfl rfl (fun hc => qFA (off := 0) rfl) ?_
   refine db 18 1 rfl (by kernel_rfl) _ rfl rfl (by simp) tk9 (fun hc => (ae rfl hc)) rfl rfl ?_
   refine bt 19 rfl (by kernel_rfl) _ rfl rfl (fun hc => bC (by kernel_rfl) (aS (ae rfl hc) (aS (ae rfl hc) rfl)) (fun w S fp hst => (zR x s.name).quiet1 (aF 1 rfl) hst)) ?_
   refine bt 20 rfl (by kernel_rfl) _ rfl rfl (fun hc => bx (ae rfl hc) rfl) ?_
   refine bt 21 rfl (by kernel_rfl) true rfl rfl (fun _ => bJ rfl rfl (fun h => gt rfl h)) ?_
   refine bt 22 rfl (by kernel_rfl) true rfl rfl (fun _ => dz (l := [(0, .const (.int .i64 2)), (1, .tmp 48), (2, .tmp 50), (4, .tmp 54), (5, .tmp 68)]) (zs := [.int .i64 0, .int .i64 0, .int .i64 0, .int .i64 0, .int .i64 0, .bool false]) (pl := [(0, 1), (1, 1), (2, 1), (3, 1), (4, 1), (5, 1)]) (by kernel_rfl) (by kernel_rfl) (by kernel_rfl) rfl rfl rfl) ?_
   refine cq 23 [] (by kernel_rfl) (bL ?_ bX)
   refine cR 23 rfl rfl (Eff.x ?_)
   refine id (bc (zs := [.int .i64 0, .int .i64 0, .int .i64 0, .int .i64 0, .int .i64 0, .bool false]) (by kernel_rfl) rfl (fun b8_23 => ?_))
   refine dD (by (try simp only [nO, nK, nL]); rfl) (by (try simp only [nM, nN]); rfl) (by (try simp only [bK, nQ, nR, dp, place, Nat.reduceBEq, if_true, if_false, reduceIte, Nat.reduceAdd, nW]); rfl) ?_
   refine cq 24 [] (by kernel_rfl) (bL ?_ bX)
   refine cR 24 rfl rfl (Eff.wild (q := false) ?_)
   refine id (aV 5 tk65 rfl rfl rfl rfl ?_)
   refine dD (by (try simp only [nO, nK, nL]); rfl) (by (try simp only [nM, nN]); rfl) (by (try simp only [bK, nQ, nR, dp, place, Nat.reduceBEq, if_true, if_false, reduceIte, Nat.reduceAdd, nW]); rfl) ?_
   refine eN (by kernel_rfl) ?_
   refine az (aH (aSR (aM rfl (aU rfl (ah 4 tk34 rfl rfl rfl) ?_))))
   refine aU rfl (bC (by kernel_rfl) rfl (fun w S fp hst => (mV x lb e (by rw [← mX, ← hF.flat]; exact he1)).quiet2 (aF 0 rfl) (aF 1 rfl) hst)) ?_
   refine aU rfl (tO (off := 3) (by kernel_rfl) rfl rfl) ?_
   refine aU rfl (bx rfl rfl) (aNn ?_)
   refine al _ rfl (fun h4 => ?_) (fun h4 => ?_)
   ·skip
    have c4 : e.s.bind = 3 := by simpa using h4
    refine aj ?_
    refine aU rfl (qFA (off := 0) rfl) ?_
    refine an rfl (aV 5 tk3 rfl rfl rfl rfl ?_)
    refine aHK ?_
    refine aNn (aSR (aU rfl (ah 5 tk65 rfl rfl rfl) ?_))
    refine an rfl (aV 2 tk65 rfl rfl rfl rfl ?_)
    refine aHK ?_
    refine aA rfl (aNn (aJ (aO ?_)))
    refine fS [] [] rfl Tryz.results38 (cV 2 tk65 rfl rfl rfl) (dV rfl) ?_ (.inr rfl)
    have hC : cC x.kp.l L SV (eY x.ifs.l) x.lib ⟨⟨i, k⟩, s⟩ = some ⟨3, e.p.obj, e.p.sym, 0, mh x.kp.l L s e, x.lib && decide (iu L s.name = 0)⟩ := by unfold cC; rw [if_neg c1]; dsimp only; rw [he]; dsimp only; rw [if_pos c4]
    exact ⟨rfl, rfl, (⟨3, e.p.obj, e.p.sym, 0, mh x.kp.l L s e, x.lib && decide (iu L s.name = 0)⟩ : bq), by rw [hC, hF.flat]; cases hlib : x.lib <;> simp [hlib], by rw [hC]; rfl⟩
   ·skip
    have c4 : ¬ e.s.bind = 3 := by simpa using h4
    refine aq (az (aSR (aU rfl (ah 5 tk65 rfl rfl rfl) ?_)))
    refine an rfl (aV 2 tk65 rfl rfl rfl rfl ?_)
    refine aHK ?_
    refine aA rfl (aNn (aJ (aO ?_)))
    refine fS [] [] rfl Tryz.results38 (cV 2 tk65 rfl rfl rfl) (dV rfl) ?_ (.inr rfl)
    have hC : cC x.kp.l L SV (eY x.ifs.l) x.lib ⟨⟨i, k⟩, s⟩ = some ⟨2, e.p.obj, e.p.sym, 0, mh x.kp.l L s e, x.lib && decide (iu L s.name = 0)⟩ := by unfold cC; rw [if_neg c1]; dsimp only; rw [he]; dsimp only; rw [if_neg c4]
    exact ⟨rfl, rfl, (⟨2, e.p.obj, e.p.sym, 0, mh x.kp.l L s e, x.lib && decide (iu L s.name = 0)⟩ : bq), by rw [hC, hF.flat]; cases hlib : x.lib <;> simp [hlib], by rw [hC]; rfl⟩
  ·skip
   have he : fP x.kp.l L SV s.name s.version = none := by simpa using h3
   refine aq (az (aH (aSR (aM rfl (aU rfl (ah 3 tk157 rfl rfl rfl) ?_)))))
   refine aU rfl (bC (by kernel_rfl) rfl (fun w S fp hst => (tH x lb s.name s.version).quiet2 (aF 0 rfl) (aF 1 rfl) hst)) ?_
   refine aA rfl (aNn (aSR (aM rfl (aU rfl (eu rfl rfl) (aNn ?_)))))
   refine al _ rfl (fun h5 => ?_) (fun h5 => ?_)
   ·skip
    have c5 : eY x.ifs.l s.name s.version ≥ 0 := by simpa using h5
    refine aSR (aM rfl ?_)
    refine aU rfl (dz (l := [(0, .const (.int .i64 4)), (3, .tmp 82), (4, .const (.int .i64 6))]) (zs := [.int .i64 0, .int .i64 0, .int .i64 0, .int .i64 0, .int .i64 0, .bool false]) (pl := [(0, 1), (1, 1), (2, 1), (3, 1), (4, 1), (5, 1)]) (by kernel_rfl) (by kernel_rfl) (by kernel_rfl) rfl rfl rfl) ?_
    refine an rfl (aV 2 tk65 rfl rfl rfl rfl ?_)
    refine aHK ?_
    refine aA rfl (aNn (aJ (aO ?_)))
    refine fS [] [] rfl Tryz.results38 (cV 2 tk65 rfl rfl rfl) (dV rfl) ?_ (.inr rfl)
    have hC : cC x.kp.l L SV (eY x.ifs.l) x.lib ⟨⟨i, k⟩, s⟩ = some ⟨4, 0, 0, eY x.ifs.l s.name s.version, 6, false⟩ := by unfold cC; rw [if_neg c1]; dsimp only; rw [he]; dsimp only; rw [if_pos c5]
    exact ⟨rfl, rfl, (⟨4, 0, 0, eY x.ifs.l s.name s.version, 6, false⟩ : bq), by rw [hC]; rfl, by rw [hC]; rfl⟩
   ·skip
    have c5 : ¬ eY x.ifs.l s.name s.version ≥ 0 := by simpa using h5
    refine aq (az (aH (aI (aSR ?_))))
    refine aU rfl (qFA (off := 6) rfl) ?_
    refine aU rfl (ah 1 tk3 rfl rfl rfl) (aU rfl (dB rfl rfl) (aA rfl (aNn ?_)))
    refine al _ rfl (fun h6 => ?_) (fun h6 => ?_)
    ·skip
     have c6 : s.sec ≠ -1 := by simpa using h6
     refine aSR ?_
     refine aU rfl (dz (l := []) (zs := [.int .i64 0, .int .i64 0, .int .i64 0, .int .i64 0, .int .i64 0, .bool false]) (pl := [(0, 1), (1, 1), (2, 1), (3, 1), (4, 1), (5, 1)]) (by kernel_rfl) (by kernel_rfl) (by kernel_rfl) rfl rfl rfl) ?_
     refine an rfl (aV 2 tk65 rfl rfl rfl rfl ?_)
     refine aHK ?_
     refine aA rfl (aNn (aJ (bu (aO ?_))))
     refine fS [] [] rfl Tryz.results38 (cV 2 tk65 rfl rfl rfl) (dV rfl) ?_ (.inr rfl)
     have hC : cC x.kp.l L SV (eY x.ifs.l) x.lib ⟨⟨i, k⟩, s⟩ = some gX := by unfold cC; rw [if_neg c1]; dsimp only; rw [he]; dsimp only; rw [if_neg c5, if_pos c6]
     exact ⟨rfl, rfl, gX, by rw [hC]; rfl, by rw [hC]; rfl⟩
    ·skip
     have c6 : ¬ s.sec ≠ -1 := by simpa using h6
     refine aSR ?_
     refine aU rfl (qFA (off := 3) rfl) ?_
     refine aU rfl (ah 1 tk3 rfl rfl rfl) (aU rfl (bx rfl rfl) (aA rfl (aNn ?_)))
     refine al _ rfl (fun h7 => ?_) (fun h7 => ?_)
     ·skip
      have c7 : s.bind = 2 := by simpa using h7
      refine aSR ?_
      refine aU rfl (dz (l := [(0, .const (.int .i64 5)), (4, .const (.int .i64 7))]) (zs := [.int .i64 0, .int .i64 0, .int .i64 0, .int .i64 0, .int .i64 0, .bool false]) (pl := [(0, 1), (1, 1), (2, 1), (3, 1), (4, 1), (5, 1)]) (by kernel_rfl) (by kernel_rfl) (by kernel_rfl) rfl rfl rfl) ?_
      refine an rfl (aV 2 tk65 rfl rfl rfl rfl ?_)
      refine aHK ?_
      refine aA rfl (aNn (aJ (bu (aO ?_))))
      refine fS [] [] rfl Tryz.results38 (cV 2 tk65 rfl rfl rfl) (dV rfl) ?_ (.inr rfl)
      have hC : cC x.kp.l L SV (eY x.ifs.l) x.lib ⟨⟨i, k⟩, s⟩ = some ⟨5, 0, 0, 0, 7, false⟩ := by unfold cC; rw [if_neg c1]; dsimp only; rw [he]; dsimp only; rw [if_neg c5, if_neg c6, if_pos c7]
      exact ⟨rfl, rfl, (⟨5, 0, 0, 0, 7, false⟩ : bq), by rw [hC]; rfl, by rw [hC]; rfl⟩
     ·skip
      have c7 : ¬ s.bind = 2 := by simpa using h7
      refine aq (bB (az (aSR ?_)))
      refine aU rfl (dz (l := []) (zs := [.int .i64 0, .int .i64 0, .int .i64 0, .int .i64 0, .int .i64 0, .bool false]) (pl := [(0, 1), (1, 1), (2, 1), (3, 1), (4, 1), (5, 1)]) (by kernel_rfl) (by kernel_rfl) (by kernel_rfl) rfl rfl rfl) ?_
      refine an rfl (aV 2 tk65 rfl rfl rfl rfl ?_)
      refine aHK ?_
      refine aA rfl (aNn (aJ ?_))
      refine fS [] [] rfl Tryz.results38 (cV 2 tk65 rfl rfl rfl) (dV rfl) ?_ (.inr rfl)
      have hC : cC x.kp.l L SV (eY x.ifs.l) x.lib ⟨⟨i, k⟩, s⟩ = none := by unfold cC; rw [if_neg c1]; dsimp only; rw [he]; dsimp only; rw [if_neg c5, if_neg c6, if_neg c7]
      exact ⟨rfl, rfl, gX, by rw [hC]; rfl, by rw [hC]; rfl⟩
end Go.Proofs.YtgmiihmahaahiaaGreatDoor

namespace Go.Proofs.YtgmiihmahaahiaaGreatDoor
open Go.RowKit Go.Lp Go.Sy
open Go.Proofs.Tryz
attribute [local irreducible] aL aB awp aC fwp
structure BS where
 mC : Nat → Option (Sl bq)
 fa : aK × Bool
def kF (m : Nat → Option (Sl bq)) (n : Nat) : List (List D) := (List.range n).map fun i => [.v (slV (cK m i))]
structure mn (ch : Dfn → Option bq) (M : List Dfn) (st : BS) : Prop where
 rows : ∀ i : Nat, (cK st.mC i).l = (M.filter fun d => decide (d.p.obj = (i : Int))).map fun d => (ch d).getD gX
 tw : (M.find? fun d => decide (ch d = none)).map (·.p) = if st.fa.2 = true then some st.fa.1 else none
abbrev vG (vo : Value) (a b n : Nat) (st : BS) : List Res :=
 [bg vo 66 1 (kF st.mC n), eM 65 6 bq.row st.mC, Box a 34 st.fa.1.vs, Box b 4 [.bool st.fa.2]]
theorem gF (m : Nat → Option (Sl bq)) (n : Nat) : (kF m n).length = n := by simp [kF]
theorem iX (m : Nat → Option (Sl bq)) {n i : Nat} (h : i < n) : (kF m n)[i]? = some [.v (slV (cK m i))] := by simp [kF, h]
theorem sT (m : Nat → Option (Sl bq)) (n i : Nat) (s : Sl bq) : (kF m n).set i [.v (slV s)] = kF (cO m i s) n := by
 apply List.ext_getElem?
 intro j
 rw [List.getElem?_set]
 by_cases hj : j < n
 · rw [iX _ hj, iX _ hj, kW, gF]
   by_cases h : i = j
   · subst h; rw [if_pos rfl, if_pos hj, if_pos rfl]
   · rw [if_neg h, if_neg (Ne.symm h)]
 · have h1 : (kF m n)[j]? = none := List.getElem?_eq_none (by rw [gF]; omega)
   have h2 : (kF (cO m i s) n)[j]? = none := List.getElem?_eq_none (by rw [gF]; omega)
   rw [h1, h2, gF]
   by_cases h : i = j
   · subst h; rw [if_pos rfl, if_neg hj]
   · rw [if_neg h]
theorem mn.start (ch : Dfn → Option bq) (p : aK) : mn ch [] ⟨fun _ => none, (p, false)⟩ := ⟨fun _ => rfl, rfl⟩
theorem mn.step {ch : Dfn → Option bq} {M : List Dfn} {st : BS} (h : mn ch M st) {d : Dfn} {i : Nat} (hi : d.p.obj = (i : Int)) (hA : Asc (M ++ [d])) {s : Sl bq} (hs : s.l = (cK st.mC i).l ++ [(ch d).getD gX]) {fa : aK × Bool}
   (hf : fa = if ch d = none then el st.fa d.p else st.fa) : mn ch (M ++ [d]) ⟨cO st.mC i s, fa⟩ where
 rows j := by
   rw [kW, List.filter_append, List.map_append]
   by_cases hj : j = i
   · subst hj
     rw [if_pos rfl, hs, h.rows]
     have : [d].filter (fun d => decide (d.p.obj = (j : Int))) = [d] := by simp [hi]
     rw [this]; rfl
   · rw [if_neg hj, h.rows]
     have : [d].filter (fun d => decide (d.p.obj = (j : Int))) = [] := by
       rw [List.filter_cons_of_neg (by rw [decide_eq_true_eq, hi]; omega)]; rfl
     rw [this]; simp
 tw := by
   show _ = if fa.2 = true then some fa.1 else none
   rw [List.find?_append, Option.map_or, h.tw, hf]
   by_cases hc : ch d = none
   · rw [if_pos hc, List.find?_cons_of_pos (by rw [decide_eq_true_eq]; exact hc)]
     unfold el
     cases hb : st.fa.2 with
     | false => simp
     | true =>
       have := h.tw
       rw [if_pos hb, Option.map_eq_some_iff] at this
       obtain ⟨e, he, hp⟩ := this
       have hlt := (List.pairwise_append.1 hA).2.2 e (List.mem_of_find?_eq_some he) d (List.mem_singleton.2 rfl)
       rw [hp] at hlt
       have : ¬ ltC d.p st.fa.1 := fun h => eQ _ (fj h hlt)
       simp [this, hb]
   · rw [if_neg hc, List.find?_cons_of_neg (by rw [decide_eq_true_eq]; exact hc)]
     simp
theorem xC (x : cm) (hok : jv x.objs.l x.kp.l) (lb bl bo : Nat) (L : List Dfn) (st : CS) (mM : ByteArray → Option aK) (hF : mB x L st mM) (SV : ByteArray → ByteArray → Bool) (hSV : ∀ p q, SV p q = true ↔ Srv x.vs.l p q) (vo : Value) (a b : Nat) (M : List Dfn) (d : Dfn) (hd : InD x.objs.l d) (hlen : M.length < 70) (hpre : ∃ N, bQ x.objs.l = (M ++ [d]) ++ N)
   (t : BS) (hI : mn (cC x.kp.l L SV (eY x.ifs.l) x.lib) M t) :
   Con Tryz.prog 37 [d.p.val, d.s.val, .pointer (some ⟨bl, 0, none⟩), .pointer (some ⟨a, 0, none⟩), .pointer (some ⟨b, 0, none⟩), .pointer (some ⟨bo, 0, none⟩)] [At bl 0 [.v (.pointer (some ⟨lb, 0, none⟩))], At bo 0 [.v vo], At lb 0 x.row, x.ok, x.fin L st mM] (vG vo a b x.objs.l.length t)
     fun _ ps hp => ps = [] ∧ ∃ y, mn (cC x.kp.l L SV (eY x.ifs.l) x.lib) (M ++ [d]) y ∧ hp = vG vo a b x.objs.l.length y := by
 obtain ⟨i, k, hi, hk, hpd⟩ := hd
 have hpo : d.p.obj = (i : Int) := by rw [hpd]
 refine Con.conv (R := fun _ ps hp => ps = [] ∧ ∃ (s : Sl bq) (fa : aK × Bool) (v : Value) (rows : List (List D)), mn (cC x.kp.l L SV (eY x.ifs.l) x.lib) (M ++ [d]) ⟨cO t.mC i s, fa⟩ ∧ v = s.val ∧ rows = s.l.map bq.row ∧
   hp = [bg vo 66 1 (kF (cO t.mC i s) x.objs.l.length), eM 65 6 bq.row (ny t.mC i), Box a 34 fa.1.vs, Box b 4 [.bool fa.2], bg v 65 6 rows]) ?_ fun _ ps' hp' ⟨h1, s, fa, v, rows, hc, hv, hr, h⟩ => ?_
 rotate_left
 · subst h1 h
   refine ⟨_, _, (StE.put (row := bq.row) 1 4 i s rfl rfl hv hr (iO _ _) rfl).trans (StE.keep [] [0, 1, 2, 3] rfl), rfl, ⟨cO t.mC i s, fa⟩, hc, ?_⟩
   rw [jG]; rfl
 have hA : Asc (M ++ [d]) := by
   obtain ⟨N, hN⟩ := hpre
   have := gp x.objs.l x.objs.l.length
   rw [show cZ x.objs.l x.objs.l.length = bQ x.objs.l from rfl, hN] at this
   exact (List.pairwise_append.1 this).1
 have hlC : ((cK t.mC i).l).length ≤ 70 := by
   rw [hI.rows, List.length_map]
   exact Nat.le_trans (List.length_filter_le _ _) (by omega)
 refine Con.enter Tryz.func37 rfl (by simp [Tryz.ntmps37]) ?_
 show awp _ _ _ _ ⟨[(0, true, _), (1, true, _), (2, true, _), (3, true, _), (4, true, _), (5, true, _)], _, _⟩
 refine aSR ?_
 refine an (q := true) rfl (cx rfl rfl rfl (fun b0_0 => ?_))
 refine aHN ?_
 refine an (q := true) rfl (cx rfl rfl rfl (fun b0_1 => ?_))
 refine aHN ?_
 refine aNn (aSR (aU rfl (aN (o := 0) tk101 rfl (.of (aF 0 rfl)) rfl) (aU rfl (ah 4 tk34 rfl rfl rfl) (aU rfl (ah 5 tk63 rfl rfl rfl) ?_))))
 refine an (q := true) rfl (bH [2, 1, 0] [] (by kernel_rfl) rfl rfl rfl rfl (vi x hok lb L st mM hF SV hSV d ⟨i, k, hi, hk, hpd⟩) ?_)
 rintro _ _ _ ⟨rfl, rfl, c, rfl, hc⟩
 refine aST ?_
 refine aM rfl (aU rfl (bD rfl rfl) (aU rfl (bD rfl rfl) ?_))
 refine an (q := true) rfl (bc (zs := [.int .i64 0, .int .i64 0, .int .i64 0, .int .i64 0, .int .i64 0, .bool false]) (by kernel_rfl) rfl (fun b1_7 => ?_))
 refine aHN ?_
 refine an rfl (aV 6 tk65 rfl rfl rfl rfl ?_)
 refine aHK ?_
 refine aA rfl (aNs (aSR (aM rfl (aU rfl (bZ rfl) (aNn ?_)))))
 refine al _ rfl (fun h1 => ?_) (fun h1 => ?_)
 ·skip
  have hcn : cC x.kp.l L SV (eY x.ifs.l) x.lib d = none := by
    cases hh : cC x.kp.l L SV (eY x.ifs.l) x.lib d with
    | none => rfl
    | some c => rw [hh] at h1; cases h1
  refine aj (aU rfl (ah 4 tk34 rfl rfl rfl) ?_)
  refine an (q := false) rfl (bH [] [2, 3] (by kernel_rfl) rfl rfl rfl rfl (jY a b t.fa d.p) ?_)
  rintro _ _ _ ⟨rfl, rfl⟩
  refine aST ?_
  refine aNn (gG (row := bq.row) 1 i rfl ?_)
  refine cP [10, 12] [12] [b0_0, b1_7] (by kernel_rfl) ?_
  show aC _ _ _ _ _ _ _ 13 #[false, false, false, false, false, false, false, false, false, false, false, false, false] _
  refine bt 0 rfl (by kernel_rfl) true rfl rfl (fun _ => aN (o := 0) tk31 rfl (.of (aF 1 rfl)) rfl) ?_
  refine bt 1 rfl (by kernel_rfl) true rfl rfl (fun _ => qFA (off := 0) rfl) ?_
  refine db 2 4 rfl (by kernel_rfl) true rfl rfl (by simp) tk3 (fun _ => rfl) rfl rfl ?_
  refine bt 3 rfl (by kernel_rfl) true rfl rfl (fun _ => aN (o := 0) tk31 rfl (.of (aF 1 rfl)) rfl) ?_
  refine bt 4 rfl (by kernel_rfl) true rfl rfl (fun _ => qFA (off := 0) rfl) ?_
  refine db 5 4 rfl (by kernel_rfl) true rfl rfl (by simp) tk3 (fun _ => rfl) rfl rfl ?_
  refine mO 6 rfl (by kernel_rfl) true rfl rfl (fun _ => fM 0 i el31 rfl rfl rfl hpo (by rw [gF]; exact hi)) ?_
  refine mO 7 rfl (by kernel_rfl) true rfl rfl (fun _ => eF 0 i 0 tk66 rfl rfl (iX _ hi) rfl rfl) ?_
  refine db 8 6 rfl (by kernel_rfl) true rfl rfl (by simp) tk65 (fun _ => rfl) rfl rfl ?_
  refine cq 9 [] (by kernel_rfl) (bL ?_ bX)
  refine cR 9 rfl rfl (Eff.x ?_)
  refine id (cB (zs := [.int .i64 0, .int .i64 0, .int .i64 0, .int .i64 0, .int .i64 0, .bool false]) (l := [(0, .tmp 29)]) el66 (by kernel_rfl) (by decide) (by decide) (by decide) rfl rfl rfl (.more rfl (.v rfl (.v rfl (.v rfl (.v rfl (.v rfl (.v rfl .nil)))))) .nil) rfl rfl (fun v4_9 => ?_))
  refine dD (by (try simp only [nO, nK, nL]); rfl) (by (try simp only [nM, nN]); rfl) (by (try simp only [bK, nQ, nR, dp, place, Nat.reduceBEq, if_true, if_false, reduceIte, Nat.reduceAdd, nW]); rfl) ?_
  refine cq 10 [] (by kernel_rfl) (bL ?_ bX)
  refine cR 10 rfl rfl (Eff.framed (q := false) [7, 8] rfl rfl (jq 4 rfl rfl (jq 6 rfl rfl qN)) ?_)
  refine id (cL 0 el66 rfl rfl rfl rfl (dR 1 el66 rfl (by simp)) (by first | assumption | simp) (by show ((cK t.mC i).l.map bq.row).length + 1 ≤ _; rw [List.length_map]; exact Nat.le_trans (Nat.add_le_add_right hlC 1) (by decide)) (((cK t.mC i).l ++ [c]).length) (by show ((cK t.mC i).l.map bq.row).length + 1 = _; rw [List.length_map, List.length_append]; rfl) (fun v4_10 c4_10 => ?_))
  refine kQ ?_
  refine dD (by (try simp only [nO, nK, nL]); rfl) (by (try simp only [nM, nN]); rfl) (by (try simp only [bK, nQ, nR, dp, place, Nat.reduceBEq, if_true, if_false, reduceIte, Nat.reduceAdd, nW]); rfl) ?_
  refine mO 11 rfl (by kernel_rfl) true rfl rfl (fun _ => fM 0 i el31 rfl rfl rfl hpo (by rw [gF]; exact hi)) ?_
  refine cq 12 [] (by kernel_rfl) (bL ?_ bX)
  refine cR 12 rfl rfl (Eff.wild (q := false) ?_)
  refine eK 0 i 0 tk66 rfl rfl rfl (iX _ hi) rfl (.v rfl .nil) rfl (by decide) ?_
  refine dD (by (try simp only [nO, nK, nL]); rfl) (by (try simp only [nM, nN]); rfl) (by (try simp only [bK, nQ, nR, dp, place, Nat.reduceBEq, if_true, if_false, reduceIte, Nat.reduceAdd, nW]); rfl) ?_
  refine eN (by kernel_rfl) ?_
  refine ir [] [0, 1, 2, 3, 7] rfl Tryz.results37 ?_ (.inl rfl)
  exact ⟨rfl, ⟨v4_10, c4_10, (cK t.mC i).l ++ [c]⟩, _, _, _, hI.step hpo hA (by rw [hc]) (by rw [if_pos hcn]), rfl, (by rw [List.map_append]), by rw [← sT]; rfl⟩
 ·skip
  have hcn : ¬ cC x.kp.l L SV (eY x.ifs.l) x.lib d = none := fun hh => by rw [hh] at h1; cases h1
  refine aq (az (gG (row := bq.row) 1 i rfl ?_))
  refine cP [10, 12] [12] [b0_0, b1_7] (by kernel_rfl) ?_
  show aC _ _ _ _ _ _ _ 13 #[false, false, false, false, false, false, false, false, false, false, false, false, false] _
  refine bt 0 rfl (by kernel_rfl) true rfl rfl (fun _ => aN (o := 0) tk31 rfl (.of (aF 1 rfl)) rfl) ?_
  refine bt 1 rfl (by kernel_rfl) true rfl rfl (fun _ => qFA (off := 0) rfl) ?_
  refine db 2 4 rfl (by kernel_rfl) true rfl rfl (by simp) tk3 (fun _ => rfl) rfl rfl ?_
  refine bt 3 rfl (by kernel_rfl) true rfl rfl (fun _ => aN (o := 0) tk31 rfl (.of (aF 1 rfl)) rfl) ?_
  refine bt 4 rfl (by kernel_rfl) true rfl rfl (fun _ => qFA (off := 0) rfl) ?_
  refine db 5 4 rfl (by kernel_rfl) true rfl rfl (by simp) tk3 (fun _ => rfl) rfl rfl ?_
  refine mO 6 rfl (by kernel_rfl) true rfl rfl (fun _ => fM 0 i el31 rfl rfl rfl hpo (by rw [gF]; exact hi)) ?_
  refine mO 7 rfl (by kernel_rfl) true rfl rfl (fun _ => eF 0 i 0 tk66 rfl rfl (iX _ hi) rfl rfl) ?_
  refine db 8 6 rfl (by kernel_rfl) true rfl rfl (by simp) tk65 (fun _ => rfl) rfl rfl ?_
  refine cq 9 [] (by kernel_rfl) (bL ?_ bX)
  refine cR 9 rfl rfl (Eff.x ?_)
  refine id (cB (zs := [.int .i64 0, .int .i64 0, .int .i64 0, .int .i64 0, .int .i64 0, .bool false]) (l := [(0, .tmp 29)]) el66 (by kernel_rfl) (by decide) (by decide) (by decide) rfl rfl rfl (.more rfl (.v rfl (.v rfl (.v rfl (.v rfl (.v rfl (.v rfl .nil)))))) .nil) rfl rfl (fun v4_9 => ?_))
  refine dD (by (try simp only [nO, nK, nL]); rfl) (by (try simp only [nM, nN]); rfl) (by (try simp only [bK, nQ, nR, dp, place, Nat.reduceBEq, if_true, if_false, reduceIte, Nat.reduceAdd, nW]); rfl) ?_
  refine cq 10 [] (by kernel_rfl) (bL ?_ bX)
  refine cR 10 rfl rfl (Eff.framed (q := false) [7, 8] rfl rfl (jq 4 rfl rfl (jq 6 rfl rfl qN)) ?_)
  refine id (cL 0 el66 rfl rfl rfl rfl (dR 1 el66 rfl (by simp)) (by first | assumption | simp) (by show ((cK t.mC i).l.map bq.row).length + 1 ≤ _; rw [List.length_map]; exact Nat.le_trans (Nat.add_le_add_right hlC 1) (by decide)) (((cK t.mC i).l ++ [c]).length) (by show ((cK t.mC i).l.map bq.row).length + 1 = _; rw [List.length_map, List.length_append]; rfl) (fun v4_10 c4_10 => ?_))
  refine kQ ?_
  refine dD (by (try simp only [nO, nK, nL]); rfl) (by (try simp only [nM, nN]); rfl) (by (try simp only [bK, nQ, nR, dp, place, Nat.reduceBEq, if_true, if_false, reduceIte, Nat.reduceAdd, nW]); rfl) ?_
  refine mO 11 rfl (by kernel_rfl) true rfl rfl (fun _ => fM 0 i el31 rfl rfl rfl hpo (by rw [gF]; exact hi)) ?_
  refine cq 12 [] (by kernel_rfl) (bL ?_ bX)
  refine cR 12 rfl rfl (Eff.wild (q := false) ?_)
  refine eK 0 i 0 tk66 rfl rfl rfl (iX _ hi) rfl (.v rfl .nil) rfl (by decide) ?_
  refine dD (by (try simp only [nO, nK, nL]); rfl) (by (try simp only [nM, nN]); rfl) (by (try simp only [bK, nQ, nR, dp, place, Nat.reduceBEq, if_true, if_false, reduceIte, Nat.reduceAdd, nW]); rfl) ?_
  refine eN (by kernel_rfl) ?_
  refine ir [] [0, 1, 2, 3, 7] rfl Tryz.results37 ?_ (.inl rfl)
  exact ⟨rfl, ⟨v4_10, c4_10, (cK t.mC i).l ++ [c]⟩, _, _, _, hI.step hpo hA (by rw [hc]) (by rw [if_neg hcn]), rfl, (by rw [List.map_append]), by rw [← sT]; rfl⟩
end Go.Proofs.YtgmiihmahaahiaaGreatDoor

namespace Go.Sy
open Go.RowKit Go.Lp
theorem zY {P : Program} {s : Sta} {fn : Func} {r r' r2 : ResultVar} {v v' v2 : Value} {R : Value → List Per → List Res → Prop} {e : Exit} (lp lh : List Nat) (ok : okH s.hp lh = true) (hr : fn.results = #[r, r', r2]) (h1 : RV P s r v) (h2 : RV P s r' v') (h3 : RV P s r2 v2) (h : R (.tuple #[v, v', v2]) (fH s.ps lp) (bK s.hp lh)) (he : e = .normal ∨ e = .ret) : oq P fn R e s :=
 ⟨he, .tuple #[v, v', v2], lp, lh, ok, fun a w S fp hst henv => by
   have h1 := h1 a w S fp hst henv
   have h2 := h2 a w S fp hst henv
   have h3 := h3 a w S fp hst henv
   cases r with
   | tmp t =>
     cases r' with
     | tmp u =>
       cases r2 with
       | tmp x => simp only [results, hr]; simp at h1 h2 h3; simp [h1, h2, h3]
       | cell b t => obtain ⟨ad, g1, g2⟩ := h3; simp only [results, hr]; simp at g1 h1 h2; simp [g1, g2, h1, h2, ed]
     | cell b t =>
       obtain ⟨ad, g1, g2⟩ := h2
       cases r2 with
       | tmp x => simp only [results, hr]; simp at g1 h1 h3; simp [g1, g2, h1, h3, ed]
       | cell b t => obtain ⟨ad', k1, k2⟩ := h3; simp only [results, hr]; simp at g1 h1 k1; simp [g1, g2, h1, k1, k2, ed]
   | cell b t =>
     obtain ⟨ad, g1, g2⟩ := h1
     cases r' with
     | tmp u =>
       cases r2 with
       | tmp x => simp only [results, hr]; simp at g1 h2 h3; simp [g1, g2, h2, h3, ed]
       | cell b t => obtain ⟨ad', k1, k2⟩ := h3; simp only [results, hr]; simp at g1 h2 k1; simp [g1, g2, h2, k1, k2, ed]
     | cell b t =>
       obtain ⟨ad', k1, k2⟩ := h2
       cases r2 with
       | tmp x => simp only [results, hr]; simp at g1 k1 h3; simp [g1, g2, k1, k2, h3, ed]
       | cell b t => obtain ⟨ad'', m1, m2⟩ := h3; simp only [results, hr]; simp at g1 k1 m1; simp [g1, g2, k1, k2, m1, m2, ed], h⟩
end Go.Sy
namespace Go.Proofs.YtgmiihmahaahiaaGreatDoor
open Go.RowKit Go.Lp Go.Sy
open Go.Proofs.Tryz
attribute [local irreducible] aL aB awp aC fwp
theorem StE.ents {ps ps' : List Per} {hp : List Res} (h : ∀ p ∈ ps', Ent ps p) : StE ps hp ps' hp := fun w S fp hst =>
 ⟨S, fp, ⟨fun p hp => h p hp w S hst.per, hst.res, hst.lt, hst.dj, hst.slt⟩, fun _ h => h, fun _ h => .inl h, fun _ h => h⟩
theorem rn (x : cm) (hok : jv x.objs.l x.kp.l) (lb : Nat) : Con Tryz.prog 35 [.pointer (some ⟨lb, 0, none⟩)] [At lb 0 x.row, x.ok]
   [dg x.ball cI slV (fun _ => none : dw → Option (Sl aK)), eM 34 2 aK.row (fun _ => none : dw → Option (Sl aK)), dg x.bch cI aK.val (fun _ => none : dw → Option aK), dg x.bnm eS slV (fun _ => none : ByteArray → Option (Sl dw)), eM 157 2 iP (fun _ => none : ByteArray → Option (Sl dw)), dg x.bmn eS aK.val (fun _ => none : ByteArray → Option aK)]
   fun r ps hp => ps = [] ∧ ∃ (st : CS) (at_ : aK) (mM : ByteArray → Option aK), i6 x.kp.l (bQ x.objs.l) st ∧ r = .tuple #[.int .i64 (if (gi x.kp.l (bQ x.objs.l)).isSome then 4 else 0), at_.val] ∧ (∀ p, gi x.kp.l (bQ x.objs.l) = some p → at_ = p) ∧
     (gi x.kp.l (bQ x.objs.l) = none → ∀ n, mM n = (cU x.kp.l (bQ x.objs.l) n).head?.map (·.p)) ∧
     hp = [dg x.ball cI slV st.mA, eM 34 2 aK.row st.mA, dg x.bch cI aK.val (chP x.kp.l (bQ x.objs.l)), dg x.bnm eS slV st.mN, eM 157 2 iP st.mN, dg x.bmn eS aK.val mM] := ur x hok lb
theorem rQ (x : cm) (hok : jv x.objs.l x.kp.l) (lb bl bo : Nat) (L : List Dfn) (st : CS) (mM : ByteArray → Option aK) (hF : mB x L st mM) (SV : ByteArray → ByteArray → Bool) (hSV : ∀ p q, SV p q = true ↔ Srv x.vs.l p q) (vo : Value) (a b : Nat) :
   Con Tryz.prog 36 [.pointer (some ⟨lb, 0, none⟩), .func (.func 37) #[] #[.pointer (some ⟨bl, 0, none⟩), .pointer (some ⟨a, 0, none⟩), .pointer (some ⟨b, 0, none⟩), .pointer (some ⟨bo, 0, none⟩)]]
   [At bl 0 [.v (.pointer (some ⟨lb, 0, none⟩))], At bo 0 [.v vo], Go.Sy.pF iP st.mN, ShM x.bmn eS aK.val mM, ShM x.bnm eS slV st.mN, ShM x.bch cI aK.val (chP x.kp.l L), ShM x.ball cI slV st.mA, At lb 0 x.row, x.ok] (vG vo a b x.objs.l.length ⟨fun _ => none, (⟨0, 0⟩, false)⟩)
   fun _ ps hp => ps = [] ∧ ∃ t, mn (cC x.kp.l L SV (eY x.ifs.l) x.lib) (bQ x.objs.l) t ∧ hp = vG vo a b x.objs.l.length t := by
 refine (oR (I := mn (cC x.kp.l L SV (eY x.ifs.l) x.lib) []) (I' := mn (cC x.kp.l L SV (eY x.ifs.l) x.lib) (bQ x.objs.l)) (l := vG vo a b x.objs.l.length) (l' := vG vo a b x.objs.l.length) (x := ⟨fun _ => none, (⟨0, 0⟩, false)⟩)
   ((tE x hok.n hok.sy lb 37 [.pointer (some ⟨bl, 0, none⟩), .pointer (some ⟨a, 0, none⟩), .pointer (some ⟨b, 0, none⟩), .pointer (some ⟨bo, 0, none⟩)] (cA (At bl 0 [.v (.pointer (some ⟨lb, 0, none⟩))]) (cA (At bo 0 [.v vo]) (cA (At lb 0 x.row) (cA x.ok (x.fin L st mM))))) (fun M => pv (mn (cC x.kp.l L SV (eY x.ifs.l) x.lib) M) (vG vo a b x.objs.l.length)) (by kernel_rfl)
     fun M d hd hl hp => pK fun t ht => (xC x hok lb bl bo L st mM hF SV hSV vo a b M d hd hl hp t ht).pre fun p hp => ?_).pre fun p hp => ?_) (.start _ _))
 · simp only [List.mem_cons, List.not_mem_nil, or_false] at hp
   have h0 := Ent.of (List.mem_singleton.2 (rfl : cA (At bl 0 [.v (.pointer (some ⟨lb, 0, none⟩))]) (cA (At bo 0 [.v vo]) (cA (At lb 0 x.row) (cA x.ok (x.fin L st mM)))) = _))
   rcases hp with rfl | rfl | rfl | rfl | rfl
   · exact h0.left
   · exact h0.right.left
   · exact h0.right.right.left
   · exact h0.right.right.right.left
   · exact h0.right.right.right.right
 · simp only [List.mem_cons, List.not_mem_nil, or_false] at hp
   rcases hp with rfl | rfl | rfl
   · exact .of (aF 7 rfl)
   · exact .of (aF 8 rfl)
   · exact .mk2 (.of (aF 0 rfl)) (.mk2 (.of (aF 1 rfl)) (.mk2 (.of (aF 7 rfl)) (.mk2 (.of (aF 8 rfl)) (.mk2 (.of (aF 6 rfl)) (.mk2 (.of (aF 5 rfl)) (.mk2 (.of (aF 4 rfl)) (.mk2 (.of (aF 3 rfl)) (.of (aF 2 rfl)))))))))
theorem rX {i : Int} {l : List bE} {d : Dfn} (h : d ∈ dW i l) : d.p.obj = i := by
 obtain ⟨k, _, hp⟩ := lz h; rw [hp]
theorem km (os : List ax) (i : Nat) : ∀ n, (cZ os n).filter (fun d => decide (d.p.obj = (i : Int))) = if i < n then dW (i : Int) (elt os (i : Int)).syms.l else []
 | 0 => by rw [if_neg (by omega)]; rfl
 | n + 1 => by
   rw [eb, List.filter_append, km os i n]
   by_cases h : i = n
   · subst h
     rw [if_neg (by omega), if_pos (by omega), List.nil_append, List.filter_eq_self.2]
     exact fun d hd => by rw [decide_eq_true_eq]; exact rX hd
   · have : (dW (n : Int) (elt os (n : Int)).syms.l).filter (fun d => decide (d.p.obj = (i : Int))) = [] := by
       rw [List.filter_eq_nil_iff]
       exact fun d hd => by rw [decide_eq_true_eq, rX hd]; omega
     rw [this, List.append_nil]
     by_cases h2 : i < n
     · rw [if_pos h2, if_pos (by omega)]
     · rw [if_neg h2, if_neg (by omega)]
def sY (e : Option (Int × aK)) : Int := match e with
 | some (c, _) => c
 | none => 0
def zJ (e : Option (Int × aK)) : aK := match e with
 | some (_, p) => p
 | none => ⟨0, 0⟩
abbrev chS (ad : Option Addr) (n : Nat) (m : Nat → Option (Sl bq)) : Sl (Sl bq) := ⟨ad, n, (List.range n).map (cK m)⟩
abbrev mkL (x : cm) (a b c d : Nat) : cm := ⟨x.objs, x.kp, x.lib, x.ifs, x.vs, a, b, c, d⟩
theorem aaa (n : Nat) : kF (fun _ => none) n = List.replicate n [.v (.slice none 0 0)] := by
 unfold kF
 rw [List.eq_replicate_iff]
 refine ⟨by simp, fun r hr => ?_⟩
 obtain ⟨i, _, rfl⟩ := List.mem_map.1 hr; rfl
theorem xk (x : cm) (hok : jv x.objs.l x.kp.l) (SV : ByteArray → ByteArray → Bool) (hSV : ∀ p q, SV p q = true ↔ Srv x.vs.l p q) :
   Con Tryz.prog 13 [x.objs.val, x.kp.val, .bool x.lib, x.ifs.val, x.vs.val] [x.ok] [] (fun r ps hp => ps = [] ∧ ((∃ c p, eT x.kp.l (bQ x.objs.l) SV (eY x.ifs.l) x.lib = some (c, p) ∧ r = .tuple #[.slice none 0 0, .int .i64 c, p.val] ∧ hp = []) ∨
   (eT x.kp.l (bQ x.objs.l) SV (eY x.ifs.l) x.lib = none ∧ ∃ (ad : Option Addr) (t : BS), mn (cC x.kp.l (bQ x.objs.l) SV (eY x.ifs.l) x.lib) (bQ x.objs.l) t ∧ r = .tuple #[.slice ad x.objs.l.length x.objs.l.length, .int .i64 0, (⟨0, 0⟩ : aK).val] ∧
     hp = [bg (.slice ad x.objs.l.length x.objs.l.length) 66 1 (kF t.mC x.objs.l.length), eM 65 6 bq.row t.mC]))) := by
 refine Con.enter Tryz.func13 rfl (by simp [Tryz.ntmps13]) ?_
 show awp _ _ _ _ ⟨[(0, true, _), (1, true, _), (2, true, _), (3, true, _), (4, true, _)], _, _⟩
 refine aSR (aA rfl (aA rfl ?_))
 refine an (q := true) rfl (bc (zs := [.int .i64 0, .int .i64 0]) (by kernel_rfl) rfl (fun b0_2 => ?_))
 refine aHN ?_
 refine aNn (aSR (aM rfl (aM rfl (aM rfl (aM rfl (aM rfl ?_))))))
 refine an (q := true) rfl (fk (cI) ((slV : Sl aK → Value)) rfl (fun b1_5 => ?_))
 refine aHN ?_
 refine an (q := true) rfl (fk (cI) (aK.val) rfl (fun b1_6 => ?_))
 refine aHN ?_
 refine an (q := true) rfl (fk (eS) ((slV : Sl dw → Value)) rfl (fun b1_7 => ?_))
 refine aHN ?_
 refine an (q := true) rfl (fk (eS) (aK.val) rfl (fun b1_8 => ?_))
 refine aHN ?_
 refine aU rfl (dz (l := [(0, .tmp 19), (1, .tmp 20), (2, .tmp 21), (3, .tmp 22), (4, .tmp 23), (5, .tmp 24), (6, .tmp 25), (7, .tmp 26), (8, .tmp 27)]) (zs := [.slice none 0 0, .slice none 0 0, .bool false, .slice none 0 0, .slice none 0 0, .map none, .map none, .map none, .map none]) (pl := [(0, 1), (1, 1), (2, 1), (3, 1), (4, 1), (5, 1), (6, 1), (7, 1), (8, 1)]) (by kernel_rfl) (by kernel_rfl) (by kernel_rfl) rfl rfl rfl) ?_
 refine an (q := true) rfl (cx rfl rfl rfl (fun b1_10 => ?_))
 refine aHN ?_
 refine an (q := true) rfl (bc (zs := [.pointer none]) (by kernel_rfl) rfl (fun b1_11 => ?_))
 refine aHN ?_
 refine an rfl (aV 6 tk101 rfl rfl rfl rfl ?_)
 refine aHK ?_
 refine aNs (aH (jy dw 34 2 aK.row (jy ByteArray 157 2 iP ?_)))
 show awp _ _ _ _ ⟨_, _, [_, _, _, _, _, _, _, _, _]⟩
 refine cX 5 rfl rfl ?_
 show awp _ _ _ _ ⟨_, At _ 0 _ :: _, _⟩
 refine aj (aU rfl (ah 6 tk101 rfl rfl rfl) ?_)
 refine an (q := false) rfl (bH [1, 0] [1, 7, 2, 3, 8, 4] (by kernel_rfl) rfl rfl rfl rfl (rn (mkL x b1_5 b1_6 b1_7 b1_8) hok b1_10) ?_)
 rintro _ _ _ ⟨rfl, st, at_, mM, hI, rfl, hat, hmm, rfl⟩
 refine aST ?_
 refine aM rfl (aU rfl (bD rfl rfl) (aU rfl (bD rfl rfl) ?_))
 refine an (q := true) rfl (bc (zs := [.int .i64 0, .int .i64 0]) (by kernel_rfl) rfl (fun b2_5 => ?_))
 refine aHN ?_
 refine aA rfl ?_
 refine an rfl (aV 9 tk34 rfl rfl rfl rfl ?_)
 refine aHK ?_
 refine aNn (aSR (aM rfl (aU rfl (dB rfl rfl) (aNn ?_))))
 refine al _ rfl (fun h1 => ?_) (fun h1 => ?_)
 ·skip
  have hce : ∃ p, gi x.kp.l (bQ x.objs.l) = some p := by
    cases hc : gi x.kp.l (bQ x.objs.l) with
    | some p => exact ⟨p, rfl⟩
    | none => exfalso; simp [hc] at h1
  obtain ⟨p, hce⟩ := hce
  obtain rfl := hat p hce
  have hb : eT x.kp.l (bQ x.objs.l) SV (eY x.ifs.l) x.lib = some (4, at_) := by
    unfold gi at hce
    unfold eT
    rw [Option.or_eq_some_iff] at hce
    rcases hce with h | ⟨h, h2⟩
    · rw [h]
    · rw [h]; dsimp only; rw [h2]
  refine aH ?_
  refine cP [4] [4] [b0_2, b2_5] (by kernel_rfl) ?_
  show aC _ _ _ _ _ _ _ 5 #[false, false, false, false, false] _
  refine bt 0 rfl (by kernel_rfl) true rfl rfl (fun _ => aD rfl) ?_
  refine db 1 9 rfl (by kernel_rfl) true rfl rfl (by simp) tk34 (fun _ => rfl) rfl rfl ?_
  refine bt 2 rfl (by kernel_rfl) true rfl rfl (fun _ => cz rfl) ?_
  refine bt 3 rfl (by kernel_rfl) true rfl rfl (fun _ => cz rfl) ?_
  refine cq 4 [] (by kernel_rfl) (bL ?_ bX)
  refine cR 4 rfl rfl (Eff.wild (q := false) ?_)
  refine id (aV 0 tk34 rfl rfl rfl rfl ?_)
  refine dD (by (try simp only [nO, nK, nL]); rfl) (by (try simp only [nM, nN]); rfl) (by (try simp only [bK, nQ, nR, dp, place, Nat.reduceBEq, if_true, if_false, reduceIte, Nat.reduceAdd, nW]); rfl) ?_
  refine eN (by kernel_rfl) ?_
  refine az (aJ (aO ?_))
  refine zY [] [] rfl Tryz.results13 (dV rfl) (dV rfl) (cV 0 tk34 rfl rfl rfl) ?_ (.inr rfl)
  exact ⟨rfl, .inl ⟨4, at_, hb, by rw [hce]; rfl, rfl⟩⟩
 ·skip
  have hce : gi x.kp.l (bQ x.objs.l) = none := by
    cases hc : gi x.kp.l (bQ x.objs.l) with
    | none => rfl
    | some p => exfalso; simp [hc] at h1
  obtain ⟨ht1, ht2⟩ : gL x.kp.l (bQ x.objs.l) = none ∧ fx x.kp.l (bQ x.objs.l) = none := by
    unfold gi at hce; rwa [Option.or_eq_none_iff] at hce
  have hF : mB (mkL x b1_5 b1_6 b1_7 b1_8) (bQ x.objs.l) st mM := ⟨rfl, hI, hmm hce, ht2⟩
  refine aq (az (aSR (aM rfl (aU rfl (aZ Tryz.underlying22 rfl) ?_))))
  refine an (q := true) rfl (iC (m := x.objs.l.length) (zs := [.slice none 0 0]) el31 (by kernel_rfl) rfl (by decide) (eJ rfl (rfl)) (eJ rfl (rfl)) (by have := hok.n; omega) rfl (fun v5_2 => ?_))
  refine aHN ?_
  refine an (q := true) rfl (bc (zs := [.slice none 0 0]) (by kernel_rfl) rfl (fun b5_3 => ?_))
  refine aHN ?_
  refine an rfl (aV 11 tk31 rfl rfl rfl rfl ?_)
  refine aHK ?_
  refine aNn (aSR ?_)
  refine an (q := true) rfl (bc (zs := [.int .i64 0, .int .i64 0]) (by kernel_rfl) rfl (fun b6_0 => ?_))
  refine aHN ?_
  refine aNn (aSR ?_)
  refine an (q := true) rfl (bc (zs := [.bool false]) (by kernel_rfl) rfl (fun b7_0 => ?_))
  refine aHN ?_
  refine an rfl (aV 13 tk4 rfl rfl rfl rfl ?_)
  refine aHK ?_
  refine aNs ?_
  refine fe 10 (bg _ _ 1 (kF (fun _ => none) x.objs.l.length)) rfl (fun _ _ _ h => by rw [aaa]; exact h) ?_
  refine jy Nat 65 6 bq.row ?_
  refine gS 1 rfl (gS 2 rfl (gS 3 rfl (gS 4 rfl (pw 8 rfl (cX 11 rfl rfl (cX 6 rfl rfl ?_))))))
  show awp _ _ _ _ ⟨_, [At b1_11 0 _, At b5_3 0 _, _, _, _, _, _, _, _], [_, _, _, _, _, _, _, _, _, _, _, _, _, _, _]⟩
  refine aj (aU rfl (aN (o := 0) tk101 rfl (.of (aF 0 rfl)) rfl) (aU rfl (im (l := [.tmp 13, .tmp 17, .tmp 18, .tmp 16]) rfl) ?_))
  refine an (q := false) rfl (bH [8, 7, 6, 5, 4, 3, 2, 1, 0] [10, 14, 12, 13] (by kernel_rfl) rfl rfl rfl rfl (rQ (mkL x b1_5 b1_6 b1_7 b1_8) hok b1_10 b1_11 b5_3 (bQ x.objs.l) st mM hF SV hSV (.slice v5_2 x.objs.l.length x.objs.l.length) b6_0 b7_0) ?_)
  rintro _ _ _ ⟨rfl, t, hT, rfl⟩
  refine aST ?_
  refine aNs (aSR (aU rfl (ah 13 tk4 rfl rfl rfl) (aNn ?_)))
  refine al _ rfl (fun h2 => ?_) (fun h2 => ?_)
  ·skip
   have hb : eT x.kp.l (bQ x.objs.l) SV (eY x.ifs.l) x.lib = some (3, t.fa.1) := by
     have := hT.tw
     rw [if_pos h2] at this
     unfold eT; rw [ht1]; dsimp only; rw [ht2]; dsimp only
     show (oo _ _ _ _ _).map _ = _
     unfold oo; rw [this]; rfl
   refine aH ?_
   refine cP [3] [3] [b0_2, b6_0] (by kernel_rfl) ?_
   show aC _ _ _ _ _ _ _ 4 #[false, false, false, false] _
   refine db 0 12 rfl (by kernel_rfl) true rfl rfl (by simp) tk34 (fun _ => rfl) rfl rfl ?_
   refine bt 1 rfl (by kernel_rfl) true rfl rfl (fun _ => cz rfl) ?_
   refine bt 2 rfl (by kernel_rfl) true rfl rfl (fun _ => cz rfl) ?_
   refine cq 3 [] (by kernel_rfl) (bL ?_ bX)
   refine cR 3 rfl rfl (Eff.wild (q := false) ?_)
   refine id (aV 0 tk34 rfl rfl rfl rfl ?_)
   refine dD (by (try simp only [nO, nK, nL]); rfl) (by (try simp only [nM, nN]); rfl) (by (try simp only [bK, nQ, nR, dp, place, Nat.reduceBEq, if_true, if_false, reduceIte, Nat.reduceAdd, nW]); rfl) ?_
   refine eN (by kernel_rfl) ?_
   refine az (aJ (aO ?_))
   refine zY [] [] rfl Tryz.results13 (dV rfl) (dV rfl) (cV 0 tk34 rfl rfl rfl) ?_ (.inr rfl)
   exact ⟨rfl, .inl ⟨3, t.fa.1, hb, rfl, rfl⟩⟩
  ·skip
   have hb : eT x.kp.l (bQ x.objs.l) SV (eY x.ifs.l) x.lib = none := by
     have := hT.tw
     rw [if_neg (by rw [h2]; decide)] at this
     unfold eT; rw [ht1]; dsimp only; rw [ht2]; dsimp only
     show (oo _ _ _ _ _).map _ = _
     unfold oo; rw [this]; rfl
   refine aq (az (aSR (aU rfl (aN (o := 0) tk31 rfl (.of (aF 1 rfl)) rfl) ?_)))
   refine aU rfl (dz (l := []) (zs := [.int .i64 0, .int .i64 0]) (pl := [(0, 1), (1, 1)]) (by kernel_rfl) (by kernel_rfl) (by kernel_rfl) rfl rfl rfl) ?_
   refine aA rfl (aA rfl ?_)
   refine an rfl (aV 0 tk34 rfl rfl rfl rfl ?_)
   refine aHK ?_
   refine aNn (aJ ?_)
   refine zY [] [10, 14] rfl Tryz.results13 (dV rfl) (dV rfl) (cV 0 tk34 rfl rfl rfl) ?_ (.inr rfl)
   exact ⟨rfl, .inr ⟨hb, v5_2, t, hT, rfl, rfl⟩⟩
theorem yG (x : cm) (hok : jv x.objs.l x.kp.l) (SV : ByteArray → ByteArray → Bool) (hSV : ∀ p q, SV p q = true ↔ Srv x.vs.l p q) :
   Con Tryz.prog 13 [x.objs.val, x.kp.val, .bool x.lib, x.ifs.val, x.vs.val] [x.ok] [] fun r ps hp => hp = [] ∧ ∃ S : Sl (Sl bq), ps = [cv (ShF bq.row) S.l, ShF slR S] ∧
     r = .tuple #[S.val, .int .i64 (sY (eT x.kp.l (bQ x.objs.l) SV (eY x.ifs.l) x.lib)), (zJ (eT x.kp.l (bQ x.objs.l) SV (eY x.ifs.l) x.lib)).val] ∧
     S.l.map (·.l) = if eT x.kp.l (bQ x.objs.l) SV (eY x.ifs.l) x.lib = none then oD x.objs.l x.kp.l SV (eY x.ifs.l) x.lib else [] := by
 refine Con.conv (xk x hok SV hSV) fun r ps' hp' ⟨h1, h⟩ => ?_
 · subst h1
   rcases h with ⟨c, p, hb, rfl, rfl⟩ | ⟨hb, ad, t, hT, rfl, rfl⟩
   · refine ⟨_, _, StE.ents (ps' := [cv (ShF bq.row) [], ShF slR (⟨none, 0, []⟩ : Sl (Sl bq))]) fun q hq => ?_, rfl, ⟨none, 0, []⟩, rfl, by rw [hb]; rfl, by rw [hb, if_neg (by simp)]; rfl⟩
     simp only [List.mem_cons, List.not_mem_nil, or_false] at hq
     rcases hq with rfl | rfl
     · exact fun _ _ _ s hs => by cases hs
     · exact fun _ _ _ => .e none 0 (by unfold maxLen; omega)
   · have hl : (chS ad x.objs.l.length t.mC).l.length = x.objs.l.length := by simp
     refine ⟨_, _, ((StE.share 0 (Sh (.slice ad x.objs.l.length x.objs.l.length) (.sl (kF t.mC x.objs.l.length))) rfl fun _ _ _ h => eO h).trans ((StE.share 1 (Go.Sy.pF bq.row t.mC) rfl fun _ _ _ h => tu h).trans ((StE.keep [0, 1] [] rfl).trans (StE.ents (ps' := [cv (ShF bq.row) (chS ad x.objs.l.length t.mC).l, ShF slR (chS ad x.objs.l.length t.mC)]) fun q hq => ?_)))), rfl, chS ad x.objs.l.length t.mC, rfl, ?_, ?_⟩
     · simp only [List.mem_cons, List.not_mem_nil, or_false] at hq
       rcases hq with rfl | rfl
       · intro w S hp s hs
         obtain ⟨i, _, rfl⟩ := List.mem_map.1 hs
         exact Ent.cK (row := bq.row) (m := t.mC) (.of (aF 1 rfl)) i w S hp
       · intro w S hp
         have := hp _ (aF 0 rfl)
         show eU w S (.slice ad (chS ad x.objs.l.length t.mC).l.length x.objs.l.length) (.sl ((chS ad x.objs.l.length t.mC).l.map slR))
         rw [hl, List.map_map]; exact this
     · rw [hb]
       show _ = Value.tuple #[.slice ad (chS ad x.objs.l.length t.mC).l.length x.objs.l.length, _, _]
       rw [hl]; rfl
     · rw [if_pos hb]
       show List.map (fun s : Sl bq => s.l) ((List.range x.objs.l.length).map (cK t.mC)) = _
       rw [List.map_map]
       unfold oD xE
       refine List.map_congr_left fun i hi => ?_
       show (cK t.mC i).l = _
       rw [hT.rows, show bQ x.objs.l = cZ x.objs.l x.objs.l.length from rfl, km, if_pos (List.mem_range.1 hi)]
end Go.Proofs.YtgmiihmahaahiaaGreatDoor

namespace Go.Proofs.YtgmiihmahaahiaaGreatDoor
open Go.RowKit Go.Lp Go.Sy Go.Sort
open Go.Proofs.Tryz
attribute [local irreducible] aL aB awp aC fwp
def w6 (p q : bF) : Int := if ox p.name q.name ≠ 0 then ox p.name q.name else ox p.version q.version
theorem rU (a b : ByteArray) : ox a b < 0 ↔ sLt a b := by
 unfold ox
 split
 · simp [*]
 · split <;> simp [*]
theorem xo (a b : ByteArray) : ox a b = 0 ↔ a = b := by
 unfold ox
 rcases nf a b with h | h | h
 · rw [if_pos h]
   exact ⟨fun h => by omega, fun e => (iw b (e ▸ h)).elim⟩
 · subst h; rw [if_neg (iw _), if_neg (iw _)]; simp
 · rw [if_neg (ql h), if_pos h]
   exact ⟨fun h => by omega, fun e => (iw b (e ▸ h)).elim⟩
theorem sX (p q : bF) : w6 p q < 0 ↔ kLt p.key q.key := by
 unfold w6 kLt
 have h1 := rU p.name q.name
 have h2 := xo p.name q.name
 have h3 := rU p.version q.version
 show _ ↔ sLt p.name q.name ∨ p.name = q.name ∧ sLt p.version q.version
 rw [← h1, ← h2, ← h3]
 split <;> omega
theorem l0 (p q : bF) : ltOf w6 p q = decide (kLt p.key q.key) := by
 unfold ltOf; rw [Bool.eq_iff_iff, decide_eq_true_eq, decide_eq_true_eq, sX]
theorem zt : SWO (ltOf w6) where
 irrefl x := by rw [l0, decide_eq_false_iff_not]; exact mW _
 trans x y z h1 h2 := by rw [l0, decide_eq_true_eq] at *; exact j5 h1 h2
 ntrans x y z h1 h2 := by
   rw [l0, decide_eq_false_iff_not] at *
   intro h
   rcases rM x.key y.key with h3 | h3 | h3
   · exact h1 h3
   · rw [h3] at h; exact h2 h
   · exact h2 (j5 h3 h)
theorem yo (p q : bF) : Con Tryz.prog 43 [p.val, q.val] [] [] (fun r _ _ => r = .int .i64 (w6 p q)) := by
 refine Con.enter Tryz.func43 rfl (by simp [Tryz.ntmps43]) ?_
 show awp _ _ _ _ ⟨[(0, true, _), (1, true, _)], _, _⟩
 refine aSR ?_
 refine an (q := true) rfl (cx rfl rfl rfl (fun b0_0 => ?_))
 refine aHN ?_
 refine an (q := true) rfl (cx rfl rfl rfl (fun b0_1 => ?_))
 refine aHN ?_
 refine aA rfl (aNs ?_)
 refine bp [11] (by kernel_rfl) ?_
 show aB _ _ _ _ _ 13 #[false, false, false, false, false, false, false, false, false, false, false, false, false] _
 refine bV 0 rfl rfl (qFA (off := 0) rfl) ?_
 refine bV 1 rfl rfl (ah 0 tk9 rfl rfl rfl) ?_
 refine bV 2 rfl rfl (qFA (off := 0) rfl) ?_
 refine bV 3 rfl rfl (ah 1 tk9 rfl rfl rfl) ?_
 refine bV 4 rfl rfl (bC (by kernel_rfl) rfl (fun w S fp hst => (sU _ _).quiet0 hst)) ?_
 refine bV 5 rfl rfl (qFA (off := 1) rfl) ?_
 refine bV 6 rfl rfl (ah 0 tk9 rfl rfl rfl) ?_
 refine bV 7 rfl rfl (qFA (off := 1) rfl) ?_
 refine bV 8 rfl rfl (ah 1 tk9 rfl rfl rfl) ?_
 refine bV 9 rfl rfl (bC (by kernel_rfl) rfl (fun w S fp hst => (sU _ _).quiet0 hst)) ?_
 refine cg (q := true) 10 rfl (by kernel_rfl) rfl rfl (cB (zs := [.int .i64 0]) (l := [(0, .tmp 9), (1, .tmp 14)]) el90 (by kernel_rfl) (by decide) (by decide) (by decide) rfl rfl rfl (.more rfl (.v rfl .nil) (.more rfl (.v rfl .nil) .nil)) rfl rfl (fun v1_10 => ?_))
 refine bST rfl ?_
 refine cg (q := false) 11 rfl (by kernel_rfl) rfl rfl (bH [] [2] (by kernel_rfl) rfl rfl rfl rfl ((wj (.slice v1_10 2 2) _ _).clean (φ := fun r => r = _) (fun _ _ _ h => h)) ?_)
 rintro _ _ _ ⟨rfl, rfl, rfl⟩
 refine bST rfl ?_
 refine bV 12 rfl rfl (cz rfl) ?_
 refine bO (by kernel_rfl) ?_
 refine az (aJ ?_)
 refine br [] [] rfl Tryz.results43 rfl ?_ (.inr rfl)
 rfl
theorem x6 (v : Value) (zs : List bF) (hz : zs.length ≤ 1000) : Con Tryz.prog 42 [v, .func (.func 43) #[] #[]] [] [bg v 46 7 (zs.map bF.row)]
   fun _ ps hp => ps = [] ∧ ∃ q : List bF, q.Perm zs ∧ (q.Pairwise fun a b => ¬ kLt b.key a.key) ∧ hp = [bg v 46 7 (q.map bF.row)] :=
 (qh (enc := bF.vs) Tryz.sortO (by decide) Tryz.isAgg46 Tryz.sizeOf46 (fun _ => rfl) (fun x v hv => by simp at hv; rcases hv with rfl | rfl | rfl | rfl | rfl | rfl | rfl <;> rfl) w6 zt 43 (by kernel_rfl) (fun x y => yo x y) (T := 46) (v := v) zs (by omega)).post
   fun _ _ _ ⟨h1, q, h2, h3, h4⟩ => ⟨h1, q, h2, h3.imp fun h => by rw [sX] at h; exact h, h4⟩
def tU (S : List (Sl bq)) (L : List Dfn) (d : Dfn) : Bool :=
 (decide ((elt (elt S d.p.obj).l d.p.sym).kind = 2) || decide ((elt (elt S d.p.obj).l d.p.sym).kind = 3)) && (decide ((elt (elt S d.p.obj).l d.p.sym).obj = d.p.obj) && (decide ((elt (elt S d.p.obj).l d.p.sym).sym = d.p.sym) && decide (iu L d.s.name ≠ 2)))
def kD (S : List (Sl bq)) (L M : List Dfn) : List bF := (M.filter (tU S L)).map lS
theorem xa (S : List (Sl bq)) (L M : List Dfn) (d : Dfn) : kD S L (M ++ [d]) = if tU S L d = true then kD S L M ++ [lS d] else kD S L M := by
 unfold kD
 rw [List.filter_append, List.map_append]
 by_cases h : tU S L d = true
 · rw [if_pos h, List.filter_cons_of_pos h]; rfl
 · rw [if_neg h, List.filter_cons_of_neg h]; simp
theorem tr (S : List (Sl bq)) (L M : List Dfn) : (kD S L M).length ≤ M.length := by
 unfold kD; rw [List.length_map]; exact List.length_filter_le _ _
theorem rj (os : Sl ax) (kp : List (Sl Bool)) (kv : Value) (hok : jv os.l kp) (S : Sl (Sl bq)) (hS : S.l.length = os.l.length) (hR : ∀ i : Nat, i < os.l.length → (elt S.l (i : Int)).l.length = (elt os.l (i : Int)).syms.l.length) :
   Con Tryz.prog 18 [os.val, kv, S.val] [ShF ax.row os, cv ax.ok os.l, cv (ShF bq.row) S.l, ShF slR S] [] fun r ps hp => ps = [] ∧ ∃ (v : Value) (q : List bF), r = v ∧ q.Perm (kD S.l (bQ os.l) (bQ os.l)) ∧ (q.Pairwise fun a b => ¬ kLt b.key a.key) ∧ hp = [bg v 46 7 (q.map bF.row)] := by
 have hfl := qX hok
 have hpre : ∀ (i k : Nat) (o : ax), i < os.l.length → elt os.l (i : Int) = o → k ≤ o.syms.l.length → (cZ os.l i ++ dW (i : Int) (o.syms.l.take k)).length ≤ 70 := fun i k o hi ho hk => by
   obtain ⟨M, hM⟩ := nS os.l (i := i + 1) (n := os.l.length) (by omega)
   obtain ⟨M2, hM2⟩ := tQ (i : Int) o.syms.l k
   have : bQ os.l = (cZ os.l i ++ dW (i : Int) (o.syms.l.take k)) ++ (M2 ++ M) := by
     unfold bQ; rw [hM, eb, ho, hM2]; simp
   rw [this, List.length_append] at hfl; omega
 generalize hL : bQ os.l = L at hfl
 refine Con.enter Tryz.func18 rfl (by simp [Tryz.ntmps18]) ?_
 show awp _ _ _ _ ⟨[(0, true, _), (1, true, _), (2, true, _)], _, _⟩
 refine bA (.of (aF 0 rfl)) (fun hlen => ?_)
 refine aSR (aA rfl (aNn (aSR (aA rfl ?_))))
 refine aNs (aH (eD 46 7 ?_))
 show awp _ _ _ _ ⟨_, _, [_]⟩
 refine aj (aM rfl (aU rfl (aZ Tryz.underlying22 rfl) (aM rfl (aNn (aI (aT [0, 2, 7, 13, 14, 15] [3, 2, 1, 0] [0] (fun (q : Nat × Value) st => q.1 ≤ os.l.length ∧ st = ⟨[(0, true, os.val), (2, true, S.val), (7, true, q.2), (13, true, os.val), (14, true, .int .i64 os.l.length), (15, true, .int .i64 q.1)], [ShF ax.row os, cv ax.ok os.l, cv (ShF bq.row) S.l, ShF slR S], [bg q.2 46 7 ((kD S.l L (cZ os.l q.1)).map bF.row)]⟩) (fun q => os.l.length - q.1) rfl (⟨(0, _), Nat.zero_le _, rfl⟩) ?_))))))
 rintro ⟨i, v⟩ st ⟨hi, rfl⟩
 dsimp only at hi
 refine aSR (aU rfl (bw rfl rfl) (aNs ?_))
 refine al _ rfl (fun h1 => ?_) (fun h1 => ?_)
 ·skip
  have hi' : i < os.l.length := by simp at h1; omega
  have ho := bM hi'
  have hsi := bM (l := S.l) (i := i) (by omega)
  have hri := hR i hi'
  generalize hoo : elt os.l (i : Int) = o at ho hri
  refine aq (az (aH (aI (aSR (aM rfl ?_)))))
  refine cJ true rfl rfl (fun _ => av Tryz.underlying22 tk61 rfl ((.of (aF 0 rfl))) rfl (aQ ho) rfl rfl) (fun h => absurd h (by decide)) (fun ⟨b4_1, o4_1⟩ => ?_)
  refine aU rfl (aP (o := 0) tk61 rfl (aF 0 rfl) rfl rfl) ?_
  refine an (q := true) rfl (bc (zs := [.string .empty, .slice none 0 0, .slice none 0 0, .slice none 0 0, .slice none 0 0, .slice none 0 0, .slice none 0 0, .slice none 0 0, .slice none 0 0, .slice none 0 0, .slice none 0 0]) (by kernel_rfl) rfl (fun b4_3 => ?_))
  refine aHN ?_
  refine aA rfl ?_
  refine an rfl (aV 1 tk61 rfl rfl rfl rfl ?_)
  refine aHK ?_
  refine aNs ?_
  refine bA (ax.f_syms (Ent.all (.of (aF 2 rfl)) ho)) (fun hlen2 => ?_)
  refine aj ?_
  refine aU rfl (qFA (off := 2) rfl) ?_
  refine aU rfl (ah 1 tk51 rfl rfl rfl) (aU rfl (aZ Tryz.underlying51 rfl) (aM rfl (aNn (aI ?_))))
  refine aT [0, 2, 7, 8, 13, 14, 15, 21, 22, 23] [3, 2, 1, 0] [0] (fun (q : Nat × Value) st => q.1 ≤ o.syms.l.length ∧ st = ⟨[(0, true, os.val), (2, true, S.val), (7, true, q.2), (8, true, .int .i64 i), (13, true, os.val), (14, true, .int .i64 os.l.length), (15, true, .int .i64 i), (21, true, o.syms.val), (22, true, .int .i64 o.syms.l.length), (23, true, .int .i64 q.1)], [ShF ax.row os, cv ax.ok os.l, cv (ShF bq.row) S.l, ShF slR S], [bg q.2 46 7 ((kD S.l L (cZ os.l i ++ dW (i : Int) (o.syms.l.take q.1))).map bF.row)]⟩) (fun q => o.syms.l.length - q.1) rfl (⟨(0, v), Nat.zero_le _, by dsimp only; rw [List.take_zero, show dW (i : Int) [] = [] from rfl, List.append_nil]; rfl⟩) ?_
  rintro ⟨k, v2⟩ st ⟨hk, rfl⟩
  dsimp only at hk
  refine aSR (aU rfl (bw rfl rfl) (aNs ?_))
  refine al _ rfl (fun h2 => ?_) (fun h2 => ?_)
  ·skip
   have hk' : k < o.syms.l.length := by simp at h2; omega
   obtain ⟨s, hs'⟩ : ∃ s, o.syms.l[k]? = some s := ⟨_, List.getElem?_eq_getElem hk'⟩
   have hck := bM (l := (elt S.l (i : Int)).l) (i := k) (by omega)
   have hlM := hpre i k o hi' hoo hk
   have hst2 := tr S.l L (cZ os.l i ++ dW (i : Int) (o.syms.l.take k))
   have hstep := xa S.l L (cZ os.l i ++ dW (i : Int) (o.syms.l.take k)) ⟨⟨(i : Int), (k : Int)⟩, s⟩
   rw [List.append_assoc, ← jW hs'] at hstep
   refine aq (az (aH (aI (aSR (aM rfl ?_)))))
   refine cJ true rfl rfl (fun _ => av Tryz.underlying51 tk63 rfl ((ax.f_syms (Ent.all (.of (aF 1 rfl)) ho))) rfl (aQ hs') rfl rfl) (fun h => absurd h (by decide)) (fun ⟨b7_1, o7_1⟩ => ?_)
   refine aU rfl (aP (o := 0) tk63 rfl (aF 0 rfl) rfl rfl) ?_
   refine an (q := true) rfl (bc (zs := [.string .empty, .string .empty, .bool false, .int .i64 0, .int .i64 0, .int .i64 0, .int .i64 0, .int .i64 0, .int .i64 0, .int .i64 0]) (by kernel_rfl) rfl (fun b7_3 => ?_))
   refine aHN ?_
   refine aA rfl ?_
   refine an rfl (aV 1 tk63 rfl rfl rfl rfl ?_)
   refine aHK ?_
   refine aNn (aSR (aM rfl (aM rfl ?_)))
   refine cJ true rfl rfl (fun _ => av Tryz.underlying31 tk66 rfl ((.of (aF 4 rfl))) rfl (aQ hsi) rfl rfl) (fun h => absurd h (by decide)) (fun ⟨b8_2, o8_2⟩ => ?_)
   refine aU rfl (aP (o := 0) tk66 rfl (aF 0 rfl) rfl rfl) (aM rfl ?_)
   refine cJ true rfl rfl (fun _ => av Tryz.underlying66 tk65 rfl ((Ent.all (f := ShF bq.row) (.of (aF 4 rfl)) hsi)) rfl (aQ hck) rfl rfl) (fun h => absurd h (by decide)) (fun ⟨b8_5, o8_5⟩ => ?_)
   refine aU rfl (aP (o := 0) tk65 rfl (aF 0 rfl) rfl rfl) ?_
   refine an (q := true) rfl (bc (zs := [.int .i64 0, .int .i64 0, .int .i64 0, .int .i64 0, .int .i64 0, .bool false]) (by kernel_rfl) rfl (fun b8_7 => ?_))
   refine aHN ?_
   refine an rfl (aV 2 tk65 rfl rfl rfl rfl ?_)
   refine aHK ?_
   refine aNs (aSR ?_)
   refine aU rfl (qFA (off := 0) rfl) ?_
   refine aU rfl (ah 2 tk3 rfl rfl rfl) (aU rfl (dB rfl rfl) (aM rfl ?_))
   refine aG rfl rfl (fun hc => qFA (off := 0) rfl) ?_
   refine aG rfl rfl (fun hc => ah 2 tk3 (ae rfl hc) rfl rfl) (aG rfl rfl (fun hc => dB (ae rfl hc) rfl) (aU rfl (bJ rfl rfl (fun h => gt rfl h)) (aM rfl ?_)))
   refine aG rfl rfl (fun hc => qFA (off := 1) rfl) ?_
   refine aG rfl rfl (fun hc => ah 2 tk3 (ae rfl hc) rfl rfl) (aG rfl rfl (fun hc => aD rfl) (aG rfl rfl (fun hc => dB (ae rfl hc) (ae rfl hc)) (aU rfl (bY rfl rfl (fun h => gf rfl h)) (aM rfl ?_))))
   refine aG rfl rfl (fun hc => qFA (off := 2) rfl) ?_
   refine aG rfl rfl (fun hc => ah 2 tk3 (ae rfl hc) rfl rfl) (aG rfl rfl (fun hc => aD rfl) (aG rfl rfl (fun hc => dB (ae rfl hc) (ae rfl hc)) (aU rfl (bY rfl rfl (fun h => gf rfl h)) (aM rfl (aG rfl rfl (fun hc => aD rfl) ?_)))))
   refine aG rfl rfl (fun hc => qFA (off := 0) rfl) ?_
   refine aG rfl rfl (fun hc => ah 1 tk9 (ae rfl hc) rfl rfl) ?_
   refine aG rfl rfl (fun hc => bC (by kernel_rfl) (aS (ae rfl hc) (aS (ae rfl hc) rfl)) (fun w S fp hst => (v7 os s.name).quiet2 (aF 3 rfl) (aF 4 rfl) hst)) ?_
   refine aG rfl rfl (fun hc => bx (ae rfl hc) rfl) (aU rfl (bY rfl rfl (fun h => gf rfl h)) (aNn ?_))
   refine al _ rfl (fun h3 => ?_) (fun h3 => ?_)
   ·skip
    have hc3 : ¬ tU S.l L ⟨⟨(i : Int), (k : Int)⟩, s⟩ = true := by
      rw [hL] at h3
      intro hs1
      unfold tU at hs1
      simp only [Bool.or_eq_true, Bool.and_eq_true, Bool.not_eq_true', decide_eq_true_eq, decide_eq_false_iff_not] at h3 hs1
      omega
    refine aX (aY (bf (az (aj ?_))))
    refine aU rfl (bd rfl rfl (by omega)) ?_
    refine aM rfl (aNn ?_)
    refine ⟨[0, 2, 7, 8, 13, 14, 15, 21, 22, 23], [3, 2, 1, 0], [0], rfl, ?_⟩
    exact ⟨(k + 1, v2), ⟨by dsimp only; omega, by dsimp only; rw [hstep, if_neg hc3]; rfl⟩, by dsimp only; omega⟩
   ·skip
    have hc3 : tU S.l L ⟨⟨(i : Int), (k : Int)⟩, s⟩ = true := by
      rw [hL] at h3
      unfold tU
      simp only [Bool.or_eq_false_iff, Bool.and_eq_false_iff, Bool.not_eq_false', Bool.or_eq_true, Bool.and_eq_true, decide_eq_true_eq, decide_eq_false_iff_not] at h3 ⊢
      omega
    refine aq (az (aj (aM rfl ?_)))
    refine aU rfl (qFA (off := 0) rfl) ?_
    refine aU rfl (ah 1 tk9 rfl rfl rfl) ?_
    refine aU rfl (qFA (off := 1) rfl) ?_
    refine aU rfl (ah 1 tk9 rfl rfl rfl) ?_
    refine aU rfl (qFA (off := 1) rfl) ?_
    refine aU rfl (ah 1 tk9 rfl rfl rfl) (aU rfl (eE rfl rfl) (aM rfl ?_))
    refine aG rfl rfl (fun hc => qFA (off := 2) rfl) ?_
    refine aG rfl rfl (fun hc => ah 1 tk4 (ae rfl hc) rfl rfl) (aU rfl (bY rfl rfl (fun h => gf rfl h)) ?_)
    refine aU rfl (qFA (off := 5) rfl) ?_
    refine aU rfl (ah 1 tk3 rfl rfl rfl) (aM rfl (aM rfl ?_))
    refine aU rfl (qFA (off := 3) rfl) ?_
    refine aU rfl (ah 1 tk3 rfl rfl rfl) (aU rfl (bx rfl rfl) ?_)
    refine aU rfl (dz (l := [(0, .tmp 64), (1, .tmp 66), (2, .tmp 73), (3, .tmp 75), (4, .tmp 76), (5, .tmp 77), (6, .tmp 80)]) (zs := [.string .empty, .string .empty, .bool false, .int .i64 0, .int .i64 0, .int .i64 0, .bool false]) (pl := [(0, 1), (1, 1), (2, 1), (3, 1), (4, 1), (5, 1), (6, 1)]) (by kernel_rfl) (by kernel_rfl) (by kernel_rfl) rfl rfl rfl) ?_
    refine an (q := true) rfl (cB (zs := [.string .empty, .string .empty, .bool false, .int .i64 0, .int .i64 0, .int .i64 0, .bool false]) (l := [(0, .tmp 81)]) el41 (by kernel_rfl) (by decide) (by decide) (by decide) rfl rfl rfl (.more rfl (.v rfl (.v rfl (.v rfl (.v rfl (.v rfl (.v rfl (.v rfl .nil))))))) .nil) rfl rfl (fun v10_20 => ?_))
    refine aHN ?_
    refine an rfl (cL 0 el41 rfl rfl rfl rfl (dR 3 el41 rfl (by simp)) (by first | assumption | simp) (by show ((kD S.l L (cZ os.l i ++ dW (i : Int) (o.syms.l.take k))).map bF.row).length + 1 ≤ _; rw [List.length_map]; exact Nat.le_trans (Nat.add_le_add_right (Nat.le_trans hst2 hlM) 1) (by decide)) ((kD S.l L (cZ os.l i ++ dW (i : Int) (o.syms.l.take k)) ++ [lS ⟨⟨(i : Int), (k : Int)⟩, s⟩]).length) (by show ((kD S.l L (cZ os.l i ++ dW (i : Int) (o.syms.l.take k))).map bF.row).length + 1 = _; rw [List.length_map, List.length_append]; rfl) (fun v10_21 c10_21 => ?_))
    refine aHK ?_
    refine aA rfl (cn (bB (az (aj ?_))))
    refine aU rfl (bd rfl rfl (by omega)) ?_
    refine aM rfl (aNn ?_)
    refine ⟨[0, 2, 7, 8, 13, 14, 15, 21, 22, 23], [3, 2, 1, 0], [0], rfl, ?_⟩
    exact ⟨(k + 1, _), ⟨by dsimp only; omega, by dsimp only; rw [hstep, if_pos hc3, List.map_append]; rfl⟩, by dsimp only; omega⟩
  ·skip
   refine aX (aY (aY (bf (bB (az (aj ?_))))))
   refine aU rfl (bd rfl rfl (by omega)) ?_
   refine aM rfl (aNn ?_)
   refine ⟨[0, 2, 7, 13, 14, 15], [3, 2, 1, 0], [0], rfl, ?_⟩
   dsimp only
   rw [List.take_of_length_le (by simp at h2; omega)]
   exact ⟨(i + 1, v2), ⟨by dsimp only; omega, by dsimp only; rw [eb, hoo]; rfl⟩, by dsimp only; omega⟩
 ·skip
  refine aX (aY (aY (bf (az (aSR (aM rfl ?_))))))
  refine an (q := false) rfl (bH [] [0] (by kernel_rfl) rfl rfl rfl rfl (x6 v (kD S.l L (cZ os.l i)) (Nat.le_trans (tr _ _ _) (by rw [show i = os.l.length by simp at h1; omega, show cZ os.l os.l.length = L from hL]; omega))) ?_)
  rintro _ _ _ ⟨rfl, q, hqp, hqs, rfl⟩
  refine aST ?_
  refine aNn (aSR (aM rfl (aA rfl (aNn (aJ ?_)))))
  refine br [] [0] rfl Tryz.results18 rfl ?_ (.inr rfl)
  refine ⟨rfl, _, q, rfl, ?_, hqs, rfl⟩
  rw [show i = os.l.length by simp at h1; omega, show cZ os.l os.l.length = L from hL] at hqp
  exact hqp
end Go.Proofs.YtgmiihmahaahiaaGreatDoor

namespace Go.Proofs.YtgmiihmahaahiaaGreatDoor
open Go.RowKit Go.Lp Go.Sy
open Go.Proofs.Tryz
attribute [local irreducible] aL aB awp aC fwp
structure acB (o : ax) : Prop where
 secs : o.secs.l.length ≤ 12
 syms : o.syms.l.length ≤ 12
 groups : o.groups.l.length ≤ 12
 inl : o.inlines.l.length ≤ 60
 rt : ab1 o
structure ac7 (os : List ax) (ifs : List cQ) (vs : List aW) : Prop where
 n : os.length ≤ 5
 o : ∀ o ∈ os, acB o
 ni : ifs.length ≤ 4
 nv : vs.length ≤ 8
 i : ∀ f ∈ ifs, f.exports.l.length ≤ 12 ∧ f.versions.l.length ≤ 8
def Fits (os : List ax) (S : List (Sl bq)) : Prop := S.length = os.length ∧ ∀ i : Nat, i < os.length → (elt S (i : Int)).l.length = (elt os (i : Int)).syms.l.length
end Go.Proofs.YtgmiihmahaahiaaGreatDoor

namespace Go.Sy
open Go.RowKit Go.Lp
section
variable {P : Program}
end
end Go.Sy

namespace Go.Proofs.YtgmiihmahaahiaaGreatDoor
open Go.RowKit Go.Lp Go.Sy
open Go.Proofs.Tryz
theorem rm {P : Program} {v : Value} {f : FuncId} {args : List Value} {p q r : Per} (h : Con P f args [p, q, r] [] fun u _ _ => u = v) {w : World} {S : bz} {fp : Nat → bz} {ps' : List Per} {hp : List Res} (hp1 : p ∈ ps') (hq1 : q ∈ ps') (hr1 : r ∈ ps') (hst : St w S fp ps' hp) :
   Calls P f args.toArray w fun e w' => e = .returned v ∧ Go.Sy.Below w.heap.size w w' := h.quiet (fun _ h => by
     rcases List.mem_cons.1 h with rfl | h
     · exact hp1
     · rcases List.mem_cons.1 h with rfl | h
       · exact hq1
       · rw [List.mem_singleton.1 h]; exact hr1) hst
theorem x4 {os : List ax} {kp : List (Sl Bool)} {sv : ByteArray → ByteArray → Bool} {lf : ByteArray → ByteArray → Int} {lib : Bool} {i : Nat} (hi : i < os.length) :
   (oD os kp sv lf lib)[i]? = some (xE kp (bQ os) sv lf lib (dW (i : Int) (elt os (i : Int)).syms.l)) := by
 unfold oD
 rw [List.getElem?_map, List.getElem?_range hi]; rfl
theorem rowD_get? {i : Int} {l : List bE} {k : Nat} {s : bE} (h : l[k]? = some s) : (dW i l)[k]? = some ⟨⟨i, (k : Int)⟩, s⟩ := by
 unfold dW
 rw [List.getElem?_map, List.getElem?_zipIdx, h]; simp
structure abc (os : List ax) (kp : List (Sl Bool)) (sv : ByteArray → ByteArray → Bool) (lf : ByteArray → ByteArray → Int) (lib : Bool) (S : List (Sl bq)) : Prop where
 fits : Fits os S
 rb : RB kp (bQ os) sv lf lib
 get : ∀ (i k : Nat) (s : bE) (r : Sl bq), (elt os (i : Int)).syms.l[k]? = some s → S[i]? = some r → r.l[k]? = some (chD kp (bQ os) sv lf lib ⟨⟨(i : Int), (k : Int)⟩, s⟩)
theorem aaV {os : List ax} {kp : List (Sl Bool)} {sv : ByteArray → ByteArray → Bool} {lf : ByteArray → ByteArray → Int} {lib : Bool} {S : List (Sl bq)}
   (hS : S.map (·.l) = if eT kp (bQ os) sv lf lib = none then oD os kp sv lf lib else []) (hb : eT kp (bQ os) sv lf lib = none) : abc os kp sv lf lib S := by
 rw [if_pos hb] at hS
 have hl : S.length = os.length := by
   have := congrArg List.length hS
   rw [List.length_map] at this
   rw [this]; unfold oD; simp
 have row : ∀ (i : Nat) (r : Sl bq), S[i]? = some r → r.l = xE kp (bQ os) sv lf lib (dW (i : Int) (elt os (i : Int)).syms.l) := fun i r hr => by
   have hi := (List.getElem?_eq_some_iff.1 hr).1
   have h1 : (S.map (·.l))[i]? = some r.l := by rw [List.getElem?_map, hr]; rfl
   rw [hS, x4 (by omega)] at h1
   exact (Option.some.inj h1).symm
 refine ⟨⟨hl, fun i hi => ?_⟩, .of (gp _ _) hb, fun i k s r hs hr => ?_⟩
 · rw [row i _ (bM (by omega))]
   unfold xE dW; simp
 · rw [row i r hr]
   unfold xE
   rw [List.getElem?_map, rowD_get? hs]; rfl
theorem aaI {kp : List (Sl Bool)} {L : List Dfn} {sv : ByteArray → ByteArray → Bool} {lf : ByteArray → ByteArray → Int} {lib : Bool} (h : sY (eT kp L sv lf lib) = 0) : eT kp L sv lf lib = none := by
 rcases tt (kp := kp) (L := L) (sv := sv) (lf := lf) (lib := lib) with ⟨p, h1, _⟩ | ⟨_, _, ⟨p, h1⟩ | h1⟩
 · rw [h1] at h; simp [sY] at h
 · rw [h1] at h; simp [sY] at h
 · exact h1
structure G13 where
 os : Sl ax
 lib : Bool
 ifs : Sl cQ
 vs : Sl aW
def G13.ok (x : G13) : Per := cA aav (cA dF (cA dG (cA (ShF ax.row x.os) (cA (cv ax.ok x.os.l) (cA (ShF cQ.row x.ifs) (cA (cv cQ.ok x.ifs.l) (cA (ShF aW.row x.vs) (cv aW.ok x.vs.l))))))))
section
variable {ps : List Per} {x : G13} (h : Ent ps x.ok)
include h
end
section
variable {n : Fr} {s : Sta} {d : Option Tmp} {ty : TypeId} {pos : String} {af : Array Edge} {gd : Option (Nat × Bool)} {X Y : Operand} {t' : TypeId}
end
end Go.Proofs.YtgmiihmahaahiaaGreatDoor

namespace Go.Sy
open Go.RowKit
mutual
/-- the cells of a datum of bools, integers, strings, arrays and structs -/
def iK {H : Type} : DataW H → Option (List Value)
 | .lit (.string bs) => some [.string ⟨bs.toArray⟩]
 | .lit (.int k n) => some [.int k n]
 | .lit (.bool b) => some [.bool b]
 | .agg ps => litAll ps
 | _ => none
def litAll {H : Type} : List (DataW H) → Option (List Value)
 | [] => some []
 | d :: ds => match iK d, litAll ds with
   | some a, some b => some (a ++ b)
   | _, _ => none
end
section
variable (P : Program)
def rdA : Nat → TypeId → Bool
 | 0, _ => false
 | k + 1, t => match P.underlying t with
   | some .bool => true
   | some (.int _) => true
   | some .string => true
   | some (.array n e) => decide (P.cellsOf t = n * P.cellsOf e) && rdA k e
   | some (.struct fs) => kU P 0 fs.toList (P.cellsOf t) && fs.toList.all (fun f => rdA k f.type)
   | _ => false
end
variable {P : Program} {H : Type} {enc : TypeId × Value → H} {w : World} {base : Nat} {spare : Nat → Bool} {held : Bool}
theorem pQ {cs : List Value} {c : Nat} {F : Nat → Option (DataW H × List MemPlace)} (ih : ∀ i x, F i = some x → iK x.1 = some ((cs.drop (i * c)).take c)) :
   ∀ (n o : Nat) (xs : List (DataW H × List MemPlace)), xs.length = n → (∀ i, i < n → F (o + i) = xs[i]?) → (o + n) * c ≤ cs.length → litAll (xs.map (·.1)) = some ((cs.drop (o * c)).take (n * c))
 | 0, o, xs, hl, _, _ => by
   have : xs = [] := List.eq_nil_of_length_eq_zero hl
   subst this; simp [litAll]
 | n + 1, o, xs, hl, hx, hc => by
   cases xs with
   | nil => simp at hl
   | cons x xs =>
     have h0 := ih _ x (by rw [hx 0 (by omega)]; rfl)
     have h1 := pQ ih n (o + 1) xs (by simpa using hl) (fun i hi => by rw [show o + 1 + i = o + (i + 1) by omega, hx (i + 1) (by omega)]; rfl) (by rw [show o + 1 + n = o + (n + 1) by omega]; exact hc)
     rw [Nat.add_zero] at h0
     rw [List.map_cons, litAll, h0, h1]
     simp only [Option.some.injEq]
     have e : (n + 1) * c = c + n * c := by rw [Nat.add_mul]; omega
     rw [e, List.take_add, List.drop_drop, show o * c + c = (o + 1) * c by rw [Nat.add_mul]; omega]
theorem nY {cs : List Value} {fuel : Nat} {ok : TypeId → Bool} (ih : ∀ (t : TypeId) (cs : List Value) (x : DataW H × List MemPlace), ok t = true → DataW.trod enc P w base spare held fuel t cs = some x → iK x.1 = some cs) :
   ∀ (fs : List Field) (off : Nat) (xs : List (DataW H × List MemPlace)), kU P off fs cs.length = true → fs.all (fun f => ok f.type) = true → xs.length = fs.length →
     (∀ (i : Nat) (f : Field), fs[i]? = some f → DataW.trod enc P w base spare held fuel f.type ((cs.drop f.offset).take (P.cellsOf f.type)) = xs[i]?) → litAll (xs.map (·.1)) = some (cs.drop off)
 | [], off, xs, hc, _, hl, _ => by
   have : xs = [] := List.eq_nil_of_length_eq_zero hl
   subst this
   have : off = cs.length := by simpa [kU] using hc
   simp [litAll, this]
 | f :: fs, off, xs, hc, hr, hl, hx => by
   cases xs with
   | nil => simp at hl
   | cons x xs =>
     simp only [kU, Bool.and_eq_true, beq_iff_eq, decide_eq_true_eq] at hc
     obtain ⟨⟨hc1, hc2⟩, hc3⟩ := hc
     simp only [List.all_cons, Bool.and_eq_true] at hr
     have h0 := ih _ _ x hr.1 (by rw [hx 0 f rfl]; rfl)
     have h1 := nY ih fs _ xs hc3 hr.2 (by simpa using hl) (fun i g hg => by rw [hx (i + 1) g (by simpa using hg)]; rfl)
     rw [List.map_cons, litAll, h0, h1]
     simp only [Option.some.injEq]
     rw [hc1, ← List.drop_drop, List.take_append_drop]
theorem mU : ∀ (k fuel : Nat) (t : TypeId) (cs : List Value) (x : DataW H × List MemPlace), rdA P k t = true → DataW.trod enc P w base spare held fuel t cs = some x → iK x.1 = some cs
 | 0, _, _, _, _, h, _ => by cases h
 | k + 1, fuel, t, cs, x, hr, h => by
   unfold rdA at hr
   split at hr
   · rename_i hu; obtain ⟨b, rfl, rfl⟩ := DataW.trod_bool hu h; rfl
   · rename_i i hu; obtain ⟨n, rfl, rfl, _⟩ := DataW.trod_int hu h; rfl
   · rename_i hu; obtain ⟨s, rfl, rfl, _⟩ := DataW.trod_string hu h; rfl
   · rename_i n e hu
     rw [Bool.and_eq_true, decide_eq_true_eq] at hr
     obtain ⟨xs, m, _, rfl, hl, hn, hx⟩ := DataW.trod_array hu h
     have := pQ (c := P.cellsOf e) (F := fun i => DataW.trod enc P w base spare held m e ((cs.drop (i * P.cellsOf e)).take (P.cellsOf e))) (cs := cs) (fun i x hx => mU k m e _ x hr.2 hx) n 0 xs hn (fun i hi => by rw [Nat.zero_add]; exact hx i hi) (by rw [Nat.zero_add, hl, hr.1]; exact Nat.le_refl _)
     show litAll (xs.map (·.1)) = some cs
     rw [this, Nat.zero_mul, List.drop_zero, List.take_of_length_le (by rw [hl, hr.1]; exact Nat.le_refl _)]
   · rename_i fs hu
     rw [Bool.and_eq_true] at hr
     obtain ⟨xs, n, _, rfl, hl, hxl, hf⟩ := DataW.trod_struct hu h
     have := nY (ok := rdA P k) (cs := cs) (fun t cs x h1 h2 => mU k n t cs x h1 h2) fs.toList 0 xs (by rw [hl]; exact hr.1) hr.2 (by simpa using hxl) (fun i f hi => hf i f (by simpa using hi))
     show litAll (xs.map (·.1)) = some cs
     rw [this, List.drop_zero]
   · cases hr
end Go.Sy

namespace Go.Proofs.YtgmiihmahaahiaaGreatDoor
open Go.ChangeShapes Go.WideShapes Go.ChangeAt Go.RowKit
open Go.Lp Go.Sy
theorem own : ownKnob Tryz.prog.godebug = none := by kernel_rfl
theorem laidOut : laidOutB Tryz.prog = true := by kernel_rfl
theorem sh {W : World} {g : Nat} {l : List Value} (h0 : l ≠ []) (h : ∀ i, W.cell? ⟨g, i, none⟩ = l[i]?) (h1 : l.all (·.oneCell') = true) : (At g 0 (l.map D.v)).holds W (fun b => b < W.heap.size) := by
 obtain ⟨v, hv⟩ : ∃ v, l[0]? = some v := by cases l with
   | nil => exact absurd rfl h0
   | cons v l => exact ⟨v, rfl⟩
 refine ⟨(pZ ((h 0).trans hv)).2, fun j d hj => ?_⟩
 rw [List.getElem?_map] at hj
 cases hl : l[j]? with
 | none => rw [hl] at hj; cases hj
 | some u =>
   rw [hl] at hj
   simp only [Option.map_some, Option.some.injEq] at hj
   exact ⟨u, by rw [Nat.zero_add, h, hl], List.all_eq_true.1 h1 u (List.mem_of_getElem? hl), by rw [← hj]; exact .v u⟩
theorem abD : Tryz.prog.globalNamed "linchpin/digest.turns" = some 2 := by kernel_rfl
theorem abW : (Tryz.prog.globals[2]?).map (·.type) = some 370 := by kernel_rfl
theorem xc : iK (Rows.laid_linchpin_digest_turns (H := Unit)) = some (kG.map fun z => Value.int .i64 z) := by kernel_rfl
theorem xj : (kG.map fun z => Value.int .i64 z).all (·.oneCell') = true := by kernel_rfl
theorem abU : Tryz.prog.globalNamed "linchpin/digest.constants" = some 1 := by kernel_rfl
theorem abq : (Tryz.prog.globals[1]?).map (·.type) = some 367 := by kernel_rfl
theorem wT : iK (Rows.laid_linchpin_digest_constants (H := Unit)) = some (eR fZ) := by kernel_rfl
theorem xJ : (eR fZ).all (·.oneCell') = true := by kernel_rfl
section
variable {H : Type} {enc : TypeId × Value → H} {w : World} {base : Nat} {spare : Nat → Bool} {held : Bool}
theorem aaH {fuel len cap : Nat} {a : Option Addr} {y : DataW H × List MemPlace} (h : DataW.trod enc Tryz.prog w base spare held fuel 22 [.slice a len cap] = some y) : ∃ s : Sl ax, Value.slice a len cap = s.val ∧ (ShF ax.row s).holds w (fun b => b < w.heap.size) ∧ (cv (fun y => ax.ok y) s.l).holds w (fun b => b < w.heap.size) := by
 obtain ⟨ds, hlen, ho, hR⟩ := lx 12 fuel 22 _ _ (by kernel_rfl) h
 obtain ⟨s, h1, h2⟩ := px ho (aam hlen hR)
 exact ⟨s, (List.cons.inj (y6 (a := [s.val]) h1)).1.symm, h2.1, h2.2⟩
end
end Go.Proofs.YtgmiihmahaahiaaGreatDoor

namespace Go.Proofs
open Go.Shelf
def Tryz.lays189_ren : Go.Shelf.Ren := ⟨fun | 189 => 219 | 125 => 98 | 257 => 269 | 128 => 206 | 129 => 207 | 294 => 293 | 295 => 294 | 296 => 295 | 297 => 296 | 298 => 297 | 299 => 298 | 216 => 299 | 300 => 300 | 301 => 301 | 328 => 307 | 329 => 262 | 330 => 263 | 331 => 308 | 332 => 309 | 215 => 239 | 343 => 311 | n => n, fun | 28 => 90 | 3 => 3 | 46 => 147 | 0 => 0 | 51 => 272 | 53 => 275 | 4 => 4 | 183 => 292 | 182 => 291 | 131 => 176 | 5 => 5 | 9 => 9 | 218 => 328 | 222 => 332 | 228 => 357 | 229 => 358 | n => n, fun | n => n⟩
theorem Tryz.lays189 : Go.Proofs.Lays.n189 Tryz.prog Tryz.lays189_ren := {
 mixed := by kernel_rfl
 f125 := Tryz.func98.trans (congrArg some (by kernel_rfl))
 f128 := Tryz.func206.trans (congrArg some (by kernel_rfl))
 f129 := Tryz.func207.trans (congrArg some (by kernel_rfl))
 f189 := Tryz.func219.trans (congrArg some (by kernel_rfl))
 f215 := Tryz.func239.trans (congrArg some (by kernel_rfl))
 f216 := Tryz.func299.trans (congrArg some (by kernel_rfl))
 f257 := Tryz.func269.trans (congrArg some (by kernel_rfl))
 f294 := Tryz.func293.trans (congrArg some (by kernel_rfl))
 f295 := Tryz.func294.trans (congrArg some (by kernel_rfl))
 f296 := Tryz.func295.trans (congrArg some (by kernel_rfl))
 f297 := Tryz.func296.trans (congrArg some (by kernel_rfl))
 f298 := Tryz.func297.trans (congrArg some (by kernel_rfl))
 f299 := Tryz.func298.trans (congrArg some (by kernel_rfl))
 f300 := Tryz.func300.trans (congrArg some (by kernel_rfl))
 f301 := Tryz.func301.trans (congrArg some (by kernel_rfl))
 f328 := Tryz.func307.trans (congrArg some (by kernel_rfl))
 f329 := Tryz.func262.trans (congrArg some (by kernel_rfl))
 f330 := Tryz.func263.trans (congrArg some (by kernel_rfl))
 f331 := Tryz.func308.trans (congrArg some (by kernel_rfl))
 f332 := Tryz.func309.trans (congrArg some (by kernel_rfl))
 f343 := Tryz.func311.trans (congrArg some (by kernel_rfl))
 t0 := Tryz.underlying0
 a0 := Tryz.isAgg0
 z0 := Tryz.sizeOf0
 v0 := Tryz.zeroValue0
 t3 := Tryz.underlying3
 a3 := Tryz.isAgg3
 z3 := Tryz.sizeOf3
 v3 := Tryz.zeroValue3
 t4 := Tryz.underlying4
 a4 := Tryz.isAgg4
 z4 := Tryz.sizeOf4
 v4 := Tryz.zeroValue4
 t5 := Tryz.underlying5
 a5 := Tryz.isAgg5
 z5 := Tryz.sizeOf5
 v5 := Tryz.zeroValue5
 t9 := Tryz.underlying9
 a9 := Tryz.isAgg9
 z9 := Tryz.sizeOf9
 v9 := Tryz.zeroValue9
 t28 := Tryz.underlying90
 a28 := Tryz.isAgg90
 z28 := Tryz.sizeOf90
 v28 := Tryz.zeroValue90
 t46 := Tryz.underlying147
 a46 := Tryz.isAgg147
 z46 := Tryz.sizeOf147
 v46 := Tryz.zeroValue147
 t51 := Tryz.underlying272
 a51 := Tryz.isAgg272
 z51 := Tryz.sizeOf272
 v51 := Tryz.zeroValue272
 t53 := Tryz.underlying275
 a53 := Tryz.isAgg275
 z53 := Tryz.sizeOf275
 v53 := Tryz.zeroValue275
 t131 := Tryz.underlying176
 a131 := Tryz.isAgg176
 z131 := Tryz.sizeOf176
 v131 := Tryz.zeroValue176
 t182 := Tryz.underlying291
 a182 := Tryz.isAgg291
 z182 := Tryz.sizeOf291
 v182 := Tryz.zeroValue291
 t183 := Tryz.underlying292
 a183 := Tryz.isAgg292
 z183 := Tryz.sizeOf292
 v183 := Tryz.zeroValue292
 t218 := Tryz.underlying328
 a218 := Tryz.isAgg328
 z218 := Tryz.sizeOf328
 v218 := Tryz.zeroValue328
 t222 := Tryz.underlying332
 a222 := Tryz.isAgg332
 z222 := Tryz.sizeOf332
 v222 := Tryz.zeroValue332
 t228 := Tryz.underlying357
 a228 := Tryz.isAgg357
 z228 := Tryz.sizeOf357
 v228 := Tryz.zeroValue357
 t229 := Tryz.underlying358
 a229 := Tryz.isAgg358
 z229 := Tryz.sizeOf358
 v229 := Tryz.zeroValue358 }
def Tryz.lays20_ren : Go.Shelf.Ren := ⟨fun | 20 => 220 | n => n, fun | 22 => 90 | 3 => 3 | 4 => 4 | 0 => 0 | n => n, fun | n => n⟩
theorem Tryz.lays20 : Go.Proofs.Lays2.n20 Tryz.prog Tryz.lays20_ren := {
 mixed := by kernel_rfl
 f20 := Tryz.func220.trans (congrArg some (by kernel_rfl))
 t0 := Tryz.underlying0
 a0 := Tryz.isAgg0
 z0 := Tryz.sizeOf0
 v0 := Tryz.zeroValue0
 t3 := Tryz.underlying3
 a3 := Tryz.isAgg3
 z3 := Tryz.sizeOf3
 v3 := Tryz.zeroValue3
 t4 := Tryz.underlying4
 a4 := Tryz.isAgg4
 z4 := Tryz.sizeOf4
 v4 := Tryz.zeroValue4
 t22 := Tryz.underlying90
 a22 := Tryz.isAgg90
 z22 := Tryz.sizeOf90
 v22 := Tryz.zeroValue90
 i3 := by kernel_rfl }
def Tryz.lays112_ren : Go.Shelf.Ren := ⟨fun | 112 => 266 | n => n, fun | 28 => 90 | 3 => 3 | 4 => 4 | 0 => 0 | n => n, fun | n => n⟩
theorem Tryz.lays112 : Go.Proofs.Lays.n112 Tryz.prog Tryz.lays112_ren := {
 mixed := by kernel_rfl
 f112 := Tryz.func266.trans (congrArg some (by kernel_rfl))
 t0 := Tryz.underlying0
 a0 := Tryz.isAgg0
 z0 := Tryz.sizeOf0
 v0 := Tryz.zeroValue0
 t3 := Tryz.underlying3
 a3 := Tryz.isAgg3
 z3 := Tryz.sizeOf3
 v3 := Tryz.zeroValue3
 t4 := Tryz.underlying4
 a4 := Tryz.isAgg4
 z4 := Tryz.sizeOf4
 v4 := Tryz.zeroValue4
 t28 := Tryz.underlying90
 a28 := Tryz.isAgg90
 z28 := Tryz.sizeOf90
 v28 := Tryz.zeroValue90 }
end Go.Proofs

