/- slices.Insert of one element, slices.Delete of one, at the parts of a space. -/
import Derived.Test.YtpgcoceggacplaaGreatDoorLpSpace1
import Derived.Test.YtpgcoceggacplaaGreatDoorLpRows
set_option linter.unusedVariables false
set_option linter.unusedSimpArgs false
set_option maxRecDepth 20000
namespace Go.Proofs.YtpgcoceggacplaaGreatDoor
open Go.RowKit Go.Lp

theorem info_part : (Tryz.prog.info? 83).map (fun i => (i.zero, i.size, i.bytes)) = some (some (.agg #[.int .i64 0, .int .i64 0, .int .i64 0, .int .i64 0, .int .i64 0, .slice none 0 0]), 6, 64) := by kernel_rfl

theorem info_parts6 : ∃ i z, Tryz.prog.info? 83 = some i ∧ i.zero = some z ∧ z.cells.size = i.size ∧ i.size = 6 ∧ i.bytes = 64 := by
  have h := info_part
  cases hq : Tryz.prog.info? 83 with
  | none => rw [hq] at h; cases h
  | some i =>
    rw [hq] at h
    simp only [Option.map_some, Option.some.injEq, Prod.mk.injEq] at h
    obtain ⟨h1, h2, h3⟩ := h
    exact ⟨i, _, rfl, h1, by rw [h2]; rfl, h2, h3⟩

theorem one_take {l : List Value} (h : ∀ v ∈ l, v.oneCell' = true) (k : Nat) : ∀ v ∈ l.take k, v.oneCell' = true := fun v hv => h v (List.mem_of_mem_take hv)
theorem one_drop {l : List Value} (h : ∀ v ∈ l, v.oneCell' = true) (k : Nat) : ∀ v ∈ l.drop k, v.oneCell' = true := fun v hv => h v (List.mem_of_mem_drop hv)

/-- the row behind an insert -/
theorem take_insert {xs cur1 news : List Value} {a m : Nat} (h1 : cur1.take a = xs.take a) (hx : xs.length = m) (hn : news.length = 6) (ha : a ≤ m) (hl : m + 6 ≤ cur1.length) :
    (splice (splice cur1 a news) (a + 6) (xs.drop a)).take (m + 6) = xs.take a ++ news ++ xs.drop a := by
  have hxa : (xs.take a).length = a := by simp; omega
  have e1 : splice cur1 a news = xs.take a ++ (news ++ cur1.drop (a + 6)) := by unfold splice; rw [h1, hn]
  rw [e1]
  unfold splice
  have e2 : (xs.take a ++ (news ++ cur1.drop (a + 6))).take (a + 6) = xs.take a ++ news := by
    rw [← List.append_assoc, List.take_append_of_le_length (by simp; omega), List.take_of_length_le (by simp; omega)]
  rw [e2, ← List.append_assoc, List.take_append_of_le_length (by simp; omega), List.take_of_length_le (by simp; omega)]

set_option maxHeartbeats 1000000 in
theorem insert_grow (B n c i V vc : Nat) (cur : List Value) (news : List Value) (w : World) (hB : w.heap[B]? = some (.cells cur.toArray 83 (0, 0))) (hcur : cur.length = c * 6) (hn : n ≤ c) (hi : i < n) (hc : c < n + 1) (hn2 : n ≤ 4096)
    (hV : ∀ j v, news[j]? = some v → w.cell? ⟨V, j, none⟩ = some v) (hVs : V < w.heap.size) (hnews : news.length = 6) (h1 : ∀ v ∈ news, v.oneCell' = true) (h1c : ∀ v ∈ cur.take (n * 6), v.oneCell' = true) :
    Calls Tryz.prog 41 #[.slice (some ⟨B, 0, none⟩) n c, .int .i64 i, .slice (some ⟨V, 0, none⟩) 1 vc] w fun e w' => ∃ (C : Nat) (cur' : List Value), e = .returned (.slice (some ⟨w.heap.size, 0, none⟩) (n + 1) C) ∧ n + 1 ≤ C ∧ C ≤ maxLen ∧
      w'.heap[w.heap.size]? = some (.cells cur'.toArray 83 (0, 0)) ∧ cur'.length = C * 6 ∧ cur'.take ((n + 1) * 6) = (cur.take (n * 6)).take (i * 6) ++ news ++ (cur.take (n * 6)).drop (i * 6) ∧ Below w.heap.size w w' := by
  have hi' : ((i : Int) == n) = false := by simp; omega
  have hBs := lt_of_heap hB
  obtain ⟨i0, z, hi0, hz, hzs, hsz, hby⟩ := info_parts6
  obtain ⟨C, w1, hC1, hC2, HA, ⟨cur1, hg1, hl1, ht1⟩, hw1, hb1⟩ := append_zeros (P := Tryz.prog) w 96 3 96 83 i0 z .i64 Tryz.underlying96 Tryz.underlying3 hi0 hz hzs B i c (n + 1 - i) cur _ _ hB (by rw [hsz]; omega) (by omega) (by omega) (by omega) (by omega) (by omega)
  rw [show i + (n + 1 - i) = n + 1 by omega] at *
  rw [show ((n + 1 - i : Nat) : Int) = (n : Int) + 1 - i by omega] at HA
  rw [hsz] at hl1 ht1
  have hsz' : (Tryz.prog.info? 83).map (·.size) = some 6 := by rw [hi0]; simp [hsz]
  -- the first copy
  have HV1 : ∀ j v, news[j]? = some v → w1.cell? ((⟨V, 0, none⟩ : Addr).add j) = some v := fun j v hj => by
    have := hV j v hj
    rw [← hb1.cell (p := ⟨V, j, none⟩) hVs] at this
    unfold Addr.add; split
    · rename_i h; subst h; exact this
    · simpa using this
  have HC1 := run_copy_rows (P := Tryz.prog) w1 96 96 3 83 6 w.heap.size (i * 6) (n + 1 - i) (C - i) ⟨V, 0, none⟩ 1 vc cur1.toArray _ news Tryz.underlying96 hsz' hg1 (by rw [hnews]; show 6 = min 1 (n + 1 - i) * 6; rw [Nat.min_eq_left (by omega)]) HV1 (by simp; omega) h1
  rw [show Nat.min 1 (n + 1 - i) = 1 from Nat.min_eq_left (by omega)] at HC1
  generalize hw2 : w1.setRow w.heap.size (splice cur1.toArray.toList (i * 6) news).toArray = w2 at HC1
  have hg2 : w2.heap[w.heap.size]? = some (.cells (splice cur1 (i * 6) news).toArray 83 (0, 0)) := by rw [← hw2]; exact heap_setRow_same _ _ _ _ _ _ hg1
  have hs2 : w2.heap.size = w.heap.size + 1 := by rw [← hw2, size_setRow, hw1]
  have hu2 : Below w.heap.size w w2 := by rw [← hw2]; exact hb1.trans (below_setRow (Below.refl _ _) (Nat.le_refl _) _)
  clear hw2
  -- the second
  have HB2 : ∀ d j v, ((cur.take (n * 6)).drop (i * 6))[j]? = some v → (w2.ext #[] d).cell? ((⟨B, i * 6, none⟩ : Addr).add j) = some v := fun d j v hj => by
    rw [List.getElem?_drop, List.getElem?_take] at hj
    split at hj
    · have e : (w2.ext #[] d).heap[B]? = some (.cells cur.toArray 83 (0, 0)) := by rw [heap_ext _ _ _ (by omega), hu2.block B hBs]; exact hB
      have : (w2.ext #[] d).cell? ⟨B, i * 6 + j, none⟩ = some v := by rw [cell_of_heap e]; simpa using hj
      unfold Addr.add; split
      · rename_i h; subst h; simpa using this
      · exact this
    · cases hj
  have hl2 : ((cur.take (n * 6)).drop (i * 6)).length = (n - i) * 6 := by simp; omega
  have HC2 := fun d => run_copy_rows (P := Tryz.prog) (w2.ext #[] d) 96 96 3 83 6 w.heap.size (i * 6 + 6) (n - i) (C - (i + 1)) ⟨B, i * 6, none⟩ (n - i) (c - i) (splice cur1 (i * 6) news).toArray _ ((cur.take (n * 6)).drop (i * 6)) Tryz.underlying96 hsz'
    (by rw [heap_ext _ _ _ (by omega)]; exact hg2) (by rw [hl2]; show _ = min (n - i) (n - i) * 6; rw [Nat.min_self]) (HB2 d) (by rw [hl2]; simp [splice, hnews]; omega) (one_drop h1c _)
  generalize hw3 : w2.setRow w.heap.size (splice (splice cur1 (i * 6) news).toArray.toList (i * 6 + 6) ((cur.take (n * 6)).drop (i * 6))).toArray = w3 at HC2
  have HC3 : ∀ d, ((Builtin.copy_ #[96, 96] 3 #[.slice (some ⟨w.heap.size, i * 6 + 6, none⟩) (n - i) (C - (i + 1)), .slice (some ⟨B, i * 6, none⟩) (n - i) (c - i)]).run Tryz.prog (w2.ext #[] d)) = .ok (goInt (Nat.min (n - i) (n - i))) (w3.ext #[] d) := fun d => by
    rw [HC2 d, setRow_ext _ _ _ _ _ (by omega), hw3]
  replace HC3 : ∀ d, ((Builtin.copy_ #[96, 96] 3 #[.slice (some ⟨w.heap.size, (i + 1) * 6, none⟩) (n - i) (C - (i + 1)), .slice (some ⟨B, i * 6, none⟩) (n - i) (c - i)]).run Tryz.prog (w2.ext #[] d)) = .ok (goInt (Nat.min (n - i) (n - i))) (w3.ext #[] d) := fun d => by
    rw [show (i + 1) * 6 = i * 6 + 6 by omega]; exact HC3 d
  have hg3 : w3.heap[w.heap.size]? = some (.cells (splice (splice cur1 (i * 6) news) (i * 6 + 6) ((cur.take (n * 6)).drop (i * 6))).toArray 83 (0, 0)) := by rw [← hw3]; exact heap_setRow_same _ _ _ _ _ _ hg2
  have hu3 : Below w.heap.size w w3 := by rw [← hw3]; exact hu2.trans (below_setRow (Below.refl _ _) (Nat.le_refl _) _)
  have hs3 : w3.heap.size = w.heap.size + 1 := by rw [← hw3, size_setRow, hs2]
  have hfin := take_insert (xs := cur.take (n * 6)) (a := i * 6) (m := n * 6) (news := news) (cur1 := cur1) (by rw [ht1, List.take_take, Nat.min_eq_left (by omega)]) (by simp; omega) hnews (by omega) (by omega)
  have HF := Lib.hid (And.intro hg3 (And.intro hfin (And.intro hu3 hs3)))
  have HA' := Lib.hid HA
  have HC1' := Lib.hid HC1
  have HC3' := Lib.hid HC3
  have hlen3 : (splice (splice cur1 (i * 6) news) (i * 6 + 6) ((cur.take (n * 6)).drop (i * 6))).length = C * 6 := by simp [splice, hnews]; omega
  have HL3 := Lib.hid hlen3
  clear hlen3 hs3 HA HC1 HC2 HC3 hg3 hfin hu3 hw3 HB2 HV1 hl2 hg2 hs2 hu2 hg1 hl1 ht1 hw1 hb1 hi0 hz hzs hsz hby hsz' hB hcur hV hVs hnews h1 h1c
  clear hBs
  have hCi : ¬ C = i := by omega
  have hCi1 : ¬ C = i + 1 := by omega
  have hci : ¬ c = i := by omega
  go_enter Tryz.func41, Tryz.ntmps41
  go_upto_region 11 with (first | (refine wpList_run (o := ⟨some 40, _, _, _, _, _⟩) rfl _ _ (exec_builtin HA'.out rfl) (fun K hK => ?_); simp only [Act.put, List.setIfInBounds_toArray, List.set_cons_succ, List.set_cons_zero]; refine hK _ _ ?_; clear hK K) | (refine wpList_run (o := ⟨some 45, _, _, _, _, _⟩) rfl _ _ (exec_builtin HC1'.out rfl) (fun K hK => ?_); simp only [Act.put, List.setIfInBounds_toArray, List.set_cons_succ, List.set_cons_zero]; refine hK _ _ ?_; clear hK K))
  refine wp_region_st 8 w3 rfl (by kernel_rfl) (by kernel_rfl) ?_
  repeat
    first
    | (refine T_write (v := ?_) rfl rfl ?_ (fun K hK => ?_); rotate_left; (rintro w1 ⟨d1, rfl⟩; simp only [wif_false, wif_true]; rw [exec_builtin (HC3'.out d1) rfl]; exact uponPh_value (show Dr w3 _ from ⟨d1, rfl⟩)); (simp only [Act.put, List.setIfInBounds_toArray, List.set_cons_succ, List.set_cons_zero]; refine hK _ ?_; clear hK K))
    | (refine T_pick_or rfl rfl rfl rfl rfl (fun K hK => ?_); simp only [Act.put, List.setIfInBounds_toArray, List.set_cons_succ, List.set_cons_zero]; refine hK _ ?_; clear hK K)
    | (refine T_pick_and rfl rfl rfl rfl rfl (fun K hK => ?_); simp only [Act.put, List.setIfInBounds_toArray, List.set_cons_succ, List.set_cons_zero]; refine hK _ ?_; clear hK K)
    | (refine T_lazy_pick_or rfl rfl rfl rfl rfl rfl (fun K hK => ?_); simp only [Act.put, List.setIfInBounds_toArray, List.set_cons_succ, List.set_cons_zero]; refine hK _ ?_; clear hK K)
    | (refine T_lazy_pick_and rfl rfl rfl rfl rfl rfl (fun K hK => ?_); simp only [Act.put, List.setIfInBounds_toArray, List.set_cons_succ, List.set_cons_zero]; refine hK _ ?_; clear hK K)
    | (refine T_quiet rfl rfl rfl (fun K hK => ?_); go_big_quiet_op; refine hK _ ?_; clear hK K)
    | (refine T_lazy (v := undef) rfl rfl rfl rfl (fun hgw => absurd hgw (by decide)) (fun K hK => ?_); (simp only [Act.put, List.setIfInBounds_toArray, List.set_cons_succ, List.set_cons_zero]; refine hK _ ?_; clear hK K))
    | (refine T_lazy2 (v := undef) rfl rfl rfl rfl (fun _ hgw => absurd hgw (by decide)) (fun K hK => ?_); (simp only [Act.put, List.setIfInBounds_toArray, List.set_cons_succ, List.set_cons_zero]; refine hK _ ?_; clear hK K))
    | (refine T_lazy (v := ?_) rfl rfl rfl rfl ?_ (fun K hK => ?_); rotate_left; (rintro hgw w1 ⟨φ1, rfl⟩; unfold Oper.quietAt; (try rw [hgw]); go_simp; (try simp (disch := omega) only [i64_in, w64_in]); exact rfl); (simp only [Act.put, List.setIfInBounds_toArray, List.set_cons_succ, List.set_cons_zero]; refine hK _ ?_; clear hK K))
    | (refine T_lazy (v := ?_) rfl rfl rfl rfl ?_ (fun K hK => ?_); rotate_left; (rintro hgw w1 ⟨φ1, rfl⟩; unfold Oper.quietAt; go_simp; (try simp (disch := omega) only [i64_in, w64_in]); exact rfl); (simp only [Act.put, List.setIfInBounds_toArray, List.set_cons_succ, List.set_cons_zero]; refine hK _ ?_; clear hK K))
    | (refine T_lazy2 (v := ?_) rfl rfl rfl rfl ?_ (fun K hK => ?_); rotate_left; (rintro hgc hgw w1 ⟨φ1, rfl⟩; unfold Oper.quietAt; (try rw [hgc]); (try rw [hgw]); go_simp; (try simp (disch := omega) only [i64_in, w64_in]); exact rfl); (simp only [Act.put, List.setIfInBounds_toArray, List.set_cons_succ, List.set_cons_zero]; refine hK _ ?_; clear hK K))
    | (refine T_store rfl rfl rfl ?_ ?_; (rintro w1 ⟨d1, rfl⟩; go_simp; exact ⟨_, rfl⟩))
  refine T_nil (fun d2 => ?_)
  go_wp2
  go_ret
  obtain ⟨hg3, hfin, hu3, hs3⟩ := HF.out
  refine ⟨C, _, rfl, hC1, hC2, ?_, HL3.out, ?_, hu3.trans ((below_ext _ _ _).mono (by omega))⟩
  · rw [heap_ext _ _ _ (by omega)]; exact hg3
  · rw [show (n + 1) * 6 = n * 6 + 6 by omega]; exact hfin
end Go.Proofs.YtpgcoceggacplaaGreatDoor
