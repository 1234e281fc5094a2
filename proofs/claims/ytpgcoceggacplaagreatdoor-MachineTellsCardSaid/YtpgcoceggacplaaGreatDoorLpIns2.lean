/- Map's call of Insert, and what the store behind it leaves. -/
import Derived.Test.YtpgcoceggacplaaGreatDoorLpIns
set_option linter.unusedVariables false
set_option linter.unusedSimpArgs false
set_option maxRecDepth 20000
namespace Go.Lp
open Go.RowKit
theorem plus_perm (S : List Pt) (k : Nat) (q : Pt) : (plus S k q).Perm (q :: S) := by
  unfold plus
  rw [List.append_assoc]
  refine (List.perm_middle (a := q) (l₁ := S.take k) (l₂ := S.drop k)).trans ?_
  rw [List.take_append_drop]
theorem mem_plus (S : List Pt) (k : Nat) (q : Pt) : mem (plus S k q) = (mem S).take k ++ [(q.ar, q.bytes)] ++ (mem S).drop k := by
  unfold plus mem
  simp [List.map_take, List.map_drop]
end Go.Lp
namespace Go.Proofs.YtpgcoceggacplaaGreatDoor
open Go.RowKit Go.Lp Go.Deep

theorem map_ins {w : World} {p : Nat} {a : Option Nat} {c : Nat} {S : List Pt} (h : SpAt w p a c S) (A : Ar) (sz : Nat) (hsz1 : sz ≤ 1048576) (k : Nat) (hk : k ≤ S.length) (hfit : MInv ((mem S).take k ++ [(A, List.replicate sz 0)] ++ (mem S).drop k)) (hnf : S.length < 4096)
    (X : World) (m : Nat) (hX : Below w.heap.size w X) (hm : X.heap.size = m) :
    Calls Tryz.prog 41 #[.slice (adr a) S.length c, .int .i64 k, .slice (some ⟨m + 1, 0, none⟩) 1 1] ((X.alloc (.cells (Array.replicate sz (bv 0)) 5)).alloc (.cells #[.int .i64 A.at_, .int .i64 A.size, .int .i64 A.kind, .int .i64 A.owner, .int .i64 A.mod, .slice (some ⟨m, 0, none⟩) sz sz] 83)) fun e w' =>
      ∃ (ad : Option Addr) (nn cc : Nat) (old : Value), e = .returned (.slice ad nn cc) ∧ w'.cell? ⟨p, 0, none⟩ = some old ∧ w'.frozen? ⟨p, 0, none⟩ = false ∧ p < w'.heap.size ∧ Hid (Done w p (foot p a S) ((mem S).take k ++ [(A, List.replicate sz 0)] ++ (mem S).drop k) (w'.setCell ⟨p, 0, none⟩ (.slice ad nn cc))) := by
  subst hm
  have hq : (⟨A, List.replicate sz 0, X.heap.size, sz⟩ : Pt).vals.toArray = #[.int .i64 A.at_, .int .i64 A.size, .int .i64 A.kind, .int .i64 A.owner, .int .i64 A.mod, .slice (some ⟨X.heap.size, 0, none⟩) sz sz] := by
    simp [Pt.vals, Pt.sl]
  rw [← hq]
  have hmem := mem_plus S k ⟨A, List.replicate sz 0, X.heap.size, sz⟩
  simp only at hmem
  rw [← hmem] at hfit ⊢
  have hblk : (⟨A, List.replicate sz 0, X.heap.size, sz⟩ : Pt).blk = X.heap.size := rfl
  have hbyt : (⟨A, List.replicate sz 0, X.heap.size, sz⟩ : Pt).bytes = List.replicate sz 0 := rfl
  have hcp : (⟨A, List.replicate sz 0, X.heap.size, sz⟩ : Pt).cap = sz := rfl
  generalize (⟨A, List.replicate sz 0, X.heap.size, sz⟩ : Pt) = q at *
  generalize hW : ((X.alloc (.cells (Array.replicate sz (bv 0)) 5)).alloc (.cells q.vals.toArray 83)) = W
  have hWs : W.heap.size = X.heap.size + 2 := by rw [← hW, nblk_alloc, nblk_alloc]
  have hWm : W.heap[X.heap.size]? = some (.cells (Array.replicate sz (bv 0)) 5 (0, 0)) := by
    rw [← hW, blk_alloc_lt _ _ _ (by rw [nblk_alloc]; omega), blk_alloc_new]
  have hWv : W.heap[X.heap.size + 1]? = some (.cells q.vals.toArray 83 (0, 0)) := by
    rw [← hW]
    have := blk_alloc_new (X.alloc (.cells (Array.replicate sz (bv 0)) 5)) (.cells q.vals.toArray 83 (0, 0))
    rw [nblk_alloc] at this
    exact this
  have hXs := hX.size
  have hWb : Below w.heap.size w W := by
    rw [← hW]
    exact (hX.alloc (by omega) _).alloc (by rw [nblk_alloc]; omega) _
  refine (insert_part h k hk hnf q W hWb (X.heap.size + 1) hWv (by omega)).mono fun e w' hw => ?_
  obtain ⟨a', c', rfl, hrow, ha', hkeep⟩ := hw
  have hlt := h.lt
  have hpl := h.plt
  have hpa : p ∉ a.toList := by
    rw [Option.mem_toList]; exact fun e => h.self e
  have hp' : w'.heap[p]? = some (.cells #[.slice (adr a) S.length c] 98 (0, 0)) := by
    rw [hkeep.block p (by omega) hpa, hWb.block p hpl]; exact h.head
  have hpw := lt_of_heap hp'
  refine ⟨_, _, _, .slice (adr a) S.length c, rfl, by rw [cell_of_heap hp']; rfl, by unfold World.frozen?; rw [show (⟨p, 0, none⟩ : Addr).block = p from rfl, hp']; simp, hpw, Lib.hid ?_⟩
  have hset : ∀ v j, j ≠ p → (w'.setCell ⟨p, 0, none⟩ v).heap[j]? = w'.heap[j]? := fun v j hj => blk_setCell_other _ _ _ _ hj
  have ha'p : a' ≠ some p := by
    rcases ha' with rfl | ⟨B, rfl, hB⟩
    · exact h.self
    · intro e; injection e with e; omega
  have hperm := plus_perm S k q
  have hmemT : ∀ x, x ∈ plus S k q ↔ x = q ∨ x ∈ S := fun x => by rw [hperm.mem_iff]; simp
  refine ⟨foot p a' (plus S k q), ⟨a', c', plus S k q, ⟨?_, ?_, fun x hx => ?_, ?_, fun x hx => ?_, ha'p, inv_mem.2 hfit, by rw [plus_length]; omega⟩, rfl, rfl⟩, ?_, ?_⟩
  · simp only [World.setCell, Array.getElem?_modify, if_pos, hp']
    rfl
  · cases a' with
    | none => exact hrow
    | some B =>
      obtain ⟨cur, hB, r⟩ := hrow
      exact ⟨cur, (hset _ B (fun e => ha'p (by rw [e]))).trans hB, r⟩
  · rcases (hmemT x).1 hx with rfl | hxS
    · refine ⟨[], ?_, by rw [hbyt, hcp]; simp, by rw [hcp]; unfold maxLen; omega⟩
      rw [hblk, hset _ _ (by omega), hkeep.block _ (by omega) (by
        rw [Option.mem_toList]; intro e; have := hlt.1 _ e; omega), hWm, hbyt]
      simp
    · obtain ⟨sp, hb, r⟩ := h.bytes x hxS
      have hxl := hlt.2 x hxS
      have hxa := h.apart x hxS
      refine ⟨sp, ?_, r⟩
      rw [hset _ _ hxa.1, hkeep.block _ (by omega) (by rw [Option.mem_toList]; exact hxa.2), hWb.block _ hxl]
      exact hb
  · rw [(hperm.map Pt.blk).nodup_iff, List.map_cons, List.nodup_cons]
    refine ⟨fun hin => ?_, h.nodup⟩
    obtain ⟨x, hx, he⟩ := List.mem_map.1 hin
    have := hlt.2 x hx
    rw [he, hblk] at this
    omega
  · rcases (hmemT x).1 hx with rfl | hxS
    · rw [hblk]
      refine ⟨by omega, ?_⟩
      rcases ha' with rfl | ⟨B, rfl, hB⟩
      · intro e; have := hlt.1 _ e; omega
      · intro e; injection e with e; omega
    · have hxl := hlt.2 x hxS
      have hxa := h.apart x hxS
      refine ⟨hxa.1, ?_⟩
      rcases ha' with rfl | ⟨B, rfl, hB⟩
      · exact hxa.2
      · intro e; injection e with e; omega
  · refine ⟨?_, ?_, ?_, ?_, fun j hj hn => ?_⟩
    · exact hkeep.os.trans hWb.os
    · exact hkeep.tape.trans hWb.tape
    · exact hkeep.output.trans hWb.output
    · rw [nblk_setCell]; exact Nat.le_trans hWb.size hkeep.size
    · simp only [foot, List.mem_cons, List.mem_append, not_or] at hn
      rw [hset _ _ hn.1, hkeep.block j (by have := hWb.size; omega) hn.2.1, hWb.block j hj]
  · intro j hj
    simp only [foot, List.mem_cons, List.mem_append, List.mem_map, Option.mem_toList] at hj ⊢
    rcases hj with rfl | hj | ⟨x, hx, rfl⟩
    · exact .inl (.inl rfl)
    · rcases ha' with rfl | ⟨B, rfl, hB⟩
      · exact .inl (.inr (.inl hj))
      · injection hj with hj; right; have := hWb.size; omega
    · rcases (hmemT x).1 hx with rfl | hxS
      · right; rw [hblk]; exact hXs
      · exact .inl (.inr (.inr ⟨x, hxS, rfl⟩))
end Go.Proofs.YtpgcoceggacplaaGreatDoor
