/- slices.Delete of one element; clear. -/
import Derived.Test.YtlhbnpahplpobaaLpInsert2
set_option linter.unusedVariables false
set_option linter.unusedSimpArgs false
namespace Go.Proofs.Ytlhbnpahplpobaa
open Go.RowKit Go.Lp

def zeroPart : List Value := [.int .i64 0, .int .i64 0, .int .i64 0, .int .i64 0, .int .i64 0, .slice none 0 0]

/-- clear of one part -/
theorem run_clear1 (w : World) (ty : TypeId) (B o cap : Nat) (cur : Array Value) (t : TypeId) (hB : w.heap[B]? = some (.cells cur t (0, 0))) (h : o + 6 ≤ cur.size) :
    (Builtin.clear_ #[68] ty #[.slice (some ⟨B, o, none⟩) 1 cap]).run Try.prog w = .ok (.tuple #[]) (w.setRow B (splice cur.toList o zeroPart).toArray) := by
  obtain ⟨i0, z, hi0, hz, hzs, hsz, hby⟩ := info_parts6
  have hst := run_storeCells_at Try.prog B o t zeroPart 0 cur w hB (by simpa [zeroPart] using h) (by simp [zeroPart, Value.oneCell'])
  have hzv : (zeroValue 56).run Try.prog w = .ok (.agg #[.int .i64 0, .int .i64 0, .int .i64 0, .int .i64 0, .int .i64 0, .slice none 0 0]) w := by kernel_rfl
  have hzc : (Builtin.zeroCells (Value.agg #[.int .i64 0, .int .i64 0, .int .i64 0, .int .i64 0, .int .i64 0, .slice none 0 0]).cells 1).toList = zeroPart := by kernel_rfl
  simp only [Builtin.clear_]
  simp [run_underlying Try.underlying68, hzv, hzc, hst, splice]

theorem take_delete {cur : List Value} {a m : Nat} (hl : m + 6 ≤ cur.length) (ha : a ≤ m) :
    (splice (splice cur a ((cur.take (m + 6)).drop (a + 6))) m zeroPart).take m = (cur.take (m + 6)).take a ++ (cur.take (m + 6)).drop (a + 6) := by
  have g : ∀ (X news : List Value) (k : Nat), splice X k news = X.take k ++ news ++ X.drop (k + news.length) := fun X news k => by unfold splice; rw [List.append_assoc]
  have e1 : ((cur.take (m + 6)).drop (a + 6)).length = m - a := by simp; omega
  have e2 : (splice cur a ((cur.take (m + 6)).drop (a + 6))).take m = cur.take a ++ (cur.take (m + 6)).drop (a + 6) := by
    rw [g, List.take_append_of_le_length (by simp; omega), List.take_of_length_le (by simp; omega)]
  have e3 : ((splice cur a ((cur.take (m + 6)).drop (a + 6))).take m).length = m := by rw [e2]; simp; omega
  rw [g _ zeroPart, List.append_assoc, List.take_append_of_le_length (by omega), List.take_take, Nat.min_self, e2, List.take_take, Nat.min_eq_left (by omega)]

set_option maxHeartbeats 1000000 in
theorem delete_one (B n c i : Nat) (cur : List Value) (w : World) (hB : w.heap[B]? = some (.cells cur.toArray 56 (0, 0))) (hcur : cur.length = c * 6) (hi : i < n) (hc : n ≤ c) (hn2 : n ≤ 4096) (hcm : c ≤ maxLen) (h1c : ∀ v ∈ cur.take (n * 6), v.oneCell' = true) :
    Calls Try.prog 38 #[.slice (some ⟨B, 0, none⟩) n c, .int .i64 i, .int .i64 (i + 1)] w fun e w' => ∃ cur' : List Value, e = .returned (.slice (some ⟨B, 0, none⟩) (n - 1) c) ∧
      w'.heap[B]? = some (.cells cur'.toArray 56 (0, 0)) ∧ cur'.length = c * 6 ∧ cur'.take ((n - 1) * 6) = (cur.take (n * 6)).take (i * 6) ++ (cur.take (n * 6)).drop (i * 6 + 6) ∧ Upd B w w' := by
  unfold maxLen at hcm
  have hBs := lt_of_heap hB
  have hii : ((i : Int) == i + 1) = false := by simp; omega
  obtain ⟨i0, z, hi0, hz, hzs, hsz, hby⟩ := info_parts6
  have hsrc : ∀ d, ∃ a : Addr, ((¬ c = i + 1 → a = ⟨B, (i + 1) * 6, none⟩) ∧ (c = i + 1 → a = ⟨B, 0, none⟩)) ∧ Src Try.prog i0.size 68 (.slice (some a) (n - (i + 1)) (c - (i + 1))) (n - (i + 1)) ((cur.take (n * 6)).drop (i * 6 + 6)) (w.ext #[] d) := fun d => by
    have e : (w.ext #[] d).heap[B]? = some (.cells cur.toArray 56 (0, 0)) := by rw [heap_ext _ _ _ hBs]; exact hB
    by_cases hc1 : c = i + 1
    · refine ⟨⟨B, 0, none⟩, ⟨fun h => absurd hc1 h, fun _ => rfl⟩, Src.row _ _ _ Try.underlying68 _ _ _ _ _ _ (by rw [hsz]; simp; omega) (fun j v hj => ?_) (one_drop h1c _)⟩
      rw [List.getElem?_drop, List.getElem?_take] at hj
      split at hj
      · omega
      · cases hj
    · refine ⟨⟨B, (i + 1) * 6, none⟩, ⟨fun _ => rfl, fun h => absurd h hc1⟩, Src.row _ _ _ Try.underlying68 _ _ _ _ _ _ (by rw [hsz]; simp; omega) (fun j v hj => ?_) (one_drop h1c _)⟩
      rw [List.getElem?_drop, List.getElem?_take] at hj
      split at hj
      · rw [cell_of_heap e, show (i + 1) * 6 + j = i * 6 + 6 + j by omega]; simpa using hj
      · cases hj
  have hnl : ((cur.take (n * 6)).drop (i * 6 + 6)).length = (n - (i + 1)) * 6 := by simp; omega
  have HA : ∀ d, ∃ a : Addr, ((¬ c = i + 1 → a = ⟨B, (i + 1) * 6, none⟩) ∧ (c = i + 1 → a = ⟨B, 0, none⟩)) ∧ (Builtin.append_ #[68, 68] 68 #[.slice (some ⟨B, 0, none⟩) i c, .slice (some a) (n - (i + 1)) (c - (i + 1))]).run Try.prog (w.ext #[] d) =
      .ok (.slice (some ⟨B, 0, none⟩) (n - 1) c) ((w.setRow B (splice cur (i * 6) ((cur.take (n * 6)).drop (i * 6 + 6))).toArray).ext #[] d) := fun d => by
    obtain ⟨a, ha, hs⟩ := hsrc d
    refine ⟨a, ha, ?_⟩
    rw [append_room (P := Try.prog) (w.ext #[] d) 68 68 68 56 i0 Try.underlying68 hi0 B 0 i c _ _ _ hs (by omega) cur.toArray 56 (by rw [heap_ext _ _ _ hBs]; exact hB) (by rw [hsz, hnl]; simp; omega),
      setRow_ext _ _ _ _ _ hBs, hsz, show i + (n - (i + 1)) = n - 1 by omega, Nat.zero_add]
  generalize hw2 : w.setRow B (splice cur (i * 6) ((cur.take (n * 6)).drop (i * 6 + 6))).toArray = w2 at HA
  have hg2 : w2.heap[B]? = some (.cells (splice cur (i * 6) ((cur.take (n * 6)).drop (i * 6 + 6))).toArray 56 (0, 0)) := by rw [← hw2]; exact heap_setRow_same _ _ _ _ _ _ hB
  have hu2 : Upd B w w2 := by rw [← hw2]; exact Upd.setRow _ _ _
  have hs2 : w2.heap.size = w.heap.size := by rw [← hw2, size_setRow]
  have hlen2 : (splice cur (i * 6) ((cur.take (n * 6)).drop (i * 6 + 6))).length = c * 6 := by rw [length_splice _ _ _ (by rw [hnl]; omega)]; exact hcur
  have HCl := fun d => run_clear1 (w2.ext #[] d) 0 B ((n - 1) * 6) (c - (n - 1)) _ _ (by rw [heap_ext _ _ _ (by omega)]; exact hg2) (by simp [hlen2]; omega)
  replace HCl : ∀ d, (Builtin.clear_ #[68] 0 #[.slice (some ⟨B, (n - 1) * 6, none⟩) (n - (n - 1)) (c - (n - 1))]).run Try.prog (w2.ext #[] d) = .ok (.tuple #[]) ((w2.setRow B (splice (splice cur (i * 6) ((cur.take (n * 6)).drop (i * 6 + 6))) ((n - 1) * 6) zeroPart).toArray).ext #[] d) := fun d => by
    rw [show n - (n - 1) = 1 by omega, HCl d, setRow_ext _ _ _ _ _ (by omega)]
  have hfin := take_delete (cur := cur) (a := i * 6) (m := (n - 1) * 6) (by omega) (by omega)
  rw [show (n - 1) * 6 + 6 = n * 6 by omega] at hfin
  have hlen3 : (splice (splice cur (i * 6) ((cur.take (n * 6)).drop (i * 6 + 6))) ((n - 1) * 6) zeroPart).length = c * 6 := by rw [length_splice _ _ _ (by rw [hlen2]; simp [zeroPart]; omega)]; exact hlen2
  have HF := Lib.hid (And.intro hg2 (And.intro hfin (And.intro hu2 (And.intro hs2 hlen3))))
  have HCl' := Lib.hid HCl
  clear hlen3 HCl hg2 hfin hu2 hs2 hlen2 hnl hi0 hz hzs hsz hby hB hcur h1c hw2 hsrc
  have hcn : ¬ c = n - 1 := by omega
  have hn1 : 1 ≤ n := by omega
  by_cases hc1 : c = i + 1
  · have HA' : Hid (∀ d, (Builtin.append_ #[68, 68] 68 #[.slice (some ⟨B, 0, none⟩) i c, .slice (some ⟨B, 0, none⟩) (n - (i + 1)) (c - (i + 1))]).run Try.prog (w.ext #[] d) = .ok (.slice (some ⟨B, 0, none⟩) (n - 1) c) (w2.ext #[] d)) := Lib.hid fun d => by
      obtain ⟨a, ⟨_, ha⟩, h⟩ := HA d
      rw [ha hc1] at h; exact h
    clear HA
    obtain rfl : n = i + 1 := by omega
    subst hc1
    replace HA' := HA'.out
    replace HCl' := HCl'.out
    simp only [Nat.sub_self, Nat.add_sub_cancel, show i + 1 - i = 1 by omega] at HA' HCl'
    replace HA' := Lib.hid HA'
    replace HCl' := Lib.hid HCl'
    go_enter Try.func38, Try.ntmps38
    go_upto_region 5 with (fail)
    refine wp_region_st 6 w2 rfl (by kernel_rfl) (by kernel_rfl) ?_
    repeat
      first
      | (refine T_write (v := ?_) rfl rfl ?_ (fun K hK => ?_); rotate_left; (rintro w1 ⟨d1, rfl⟩; simp only [wif_false, wif_true]; rw [exec_builtin (HA'.out d1) rfl]; exact uponPh_value (show Dr w2 _ from ⟨d1, rfl⟩)); (simp only [Act.put, List.setIfInBounds_toArray, List.set_cons_succ, List.set_cons_zero]; refine hK _ ?_; clear hK K))
      | (refine T_pick_or rfl rfl rfl rfl rfl (fun K hK => ?_); simp only [Act.put, List.setIfInBounds_toArray, List.set_cons_succ, List.set_cons_zero]; refine hK _ ?_; clear hK K)
      | (refine T_pick_and rfl rfl rfl rfl rfl (fun K hK => ?_); simp only [Act.put, List.setIfInBounds_toArray, List.set_cons_succ, List.set_cons_zero]; refine hK _ ?_; clear hK K)
      | (refine T_lazy_pick_or rfl rfl rfl rfl rfl rfl (fun K hK => ?_); simp only [Act.put, List.setIfInBounds_toArray, List.set_cons_succ, List.set_cons_zero]; refine hK _ ?_; clear hK K)
      | (refine T_lazy_pick_and rfl rfl rfl rfl rfl rfl (fun K hK => ?_); simp only [Act.put, List.setIfInBounds_toArray, List.set_cons_succ, List.set_cons_zero]; refine hK _ ?_; clear hK K)
      | (refine T_quiet rfl rfl rfl (fun K hK => ?_); go_big_quiet_op; refine hK _ ?_; clear hK K)
      | (refine T_lazy (v := undef) rfl rfl rfl rfl (fun hgw => absurd hgw (by decide)) (fun K hK => ?_); (simp only [Act.put, List.setIfInBounds_toArray, List.set_cons_succ, List.set_cons_zero]; refine hK _ ?_; clear hK K))
      | (refine T_lazy2 (v := undef) rfl rfl rfl rfl (fun _ hgw => absurd hgw (by decide)) (fun K hK => ?_); (simp only [Act.put, List.setIfInBounds_toArray, List.set_cons_succ, List.set_cons_zero]; refine hK _ ?_; clear hK K))
      | (refine T_lazy (v := ?_) rfl rfl rfl rfl ?_ (fun K hK => ?_); rotate_left; (rintro hgw w1 ⟨φ1, rfl⟩; unfold Oper.quietAt; (try rw [hgw]); go_simp; (try simp (disch := omega) only [i64_in, w64_in]); exact rfl); (simp only [Act.put, List.setIfInBounds_toArray, List.set_cons_succ, List.set_cons_zero]; refine hK _ ?_; clear hK K))
      | (refine T_lazy (v := ?_) rfl rfl rfl rfl ?_ (fun K hK => ?_); rotate_left; (rintro hgw w1 ⟨φ1, rfl⟩; unfold Oper.quietAt; go_simp; (try simp (disch := omega) only [i64_in, w64_in]); exact rfl); (simp only [Act.put, List.setIfInBounds_toArray, List.set_cons_succ, List.set_cons_zero]; refine hK _ ?_; clear hK K))
      | (refine T_lazy2 (v := ?_) rfl rfl rfl rfl ?_ (fun K hK => ?_); rotate_left; (rintro hgc hgw w1 ⟨φ1, rfl⟩; unfold Oper.quietAt; (try rw [hgc]); (try rw [hgw]); go_simp; (try simp (disch := omega) only [i64_in, w64_in]); exact rfl); (simp only [Act.put, List.setIfInBounds_toArray, List.set_cons_succ, List.set_cons_zero]; refine hK _ ?_; clear hK K))
      | (refine T_store rfl rfl rfl ?_ ?_; (rintro w1 ⟨d1, rfl⟩; go_simp; exact ⟨_, rfl⟩))
    refine T_nil (fun d2 => ?_)
    go_wp2_with (simp only [HCl'.out])
    go_ret
    obtain ⟨hg2, hfin, hu2, hs2, hlen3⟩ := HF.out
    simp only [Nat.add_sub_cancel] at hfin hlen3
    refine ⟨_, rfl, ?_, hlen3, hfin, (hu2.trans (Upd.setRow _ _ _)).trans (Upd.of_below (below_ext _ _ _))⟩
    rw [heap_ext _ _ _ (by rw [size_setRow]; omega)]
    exact heap_setRow_same _ _ _ _ _ _ hg2
  · have HA' : Hid (∀ d, (Builtin.append_ #[68, 68] 68 #[.slice (some ⟨B, 0, none⟩) i c, .slice (some ⟨B, (i + 1) * 6, none⟩) (n - (i + 1)) (c - (i + 1))]).run Try.prog (w.ext #[] d) = .ok (.slice (some ⟨B, 0, none⟩) (n - 1) c) (w2.ext #[] d)) := Lib.hid fun d => by
      obtain ⟨a, ⟨ha, _⟩, h⟩ := HA d
      rw [ha hc1] at h; exact h
    clear HA
    go_enter Try.func38, Try.ntmps38
    go_upto_region 5 with (fail)
    refine wp_region_st 6 w2 rfl (by kernel_rfl) (by kernel_rfl) ?_
    repeat
      first
      | (refine T_write (v := ?_) rfl rfl ?_ (fun K hK => ?_); rotate_left; (rintro w1 ⟨d1, rfl⟩; simp only [wif_false, wif_true]; rw [exec_builtin (HA'.out d1) rfl]; exact uponPh_value (show Dr w2 _ from ⟨d1, rfl⟩)); (simp only [Act.put, List.setIfInBounds_toArray, List.set_cons_succ, List.set_cons_zero]; refine hK _ ?_; clear hK K))
      | (refine T_pick_or rfl rfl rfl rfl rfl (fun K hK => ?_); simp only [Act.put, List.setIfInBounds_toArray, List.set_cons_succ, List.set_cons_zero]; refine hK _ ?_; clear hK K)
      | (refine T_pick_and rfl rfl rfl rfl rfl (fun K hK => ?_); simp only [Act.put, List.setIfInBounds_toArray, List.set_cons_succ, List.set_cons_zero]; refine hK _ ?_; clear hK K)
      | (refine T_lazy_pick_or rfl rfl rfl rfl rfl rfl (fun K hK => ?_); simp only [Act.put, List.setIfInBounds_toArray, List.set_cons_succ, List.set_cons_zero]; refine hK _ ?_; clear hK K)
      | (refine T_lazy_pick_and rfl rfl rfl rfl rfl rfl (fun K hK => ?_); simp only [Act.put, List.setIfInBounds_toArray, List.set_cons_succ, List.set_cons_zero]; refine hK _ ?_; clear hK K)
      | (refine T_quiet rfl rfl rfl (fun K hK => ?_); go_big_quiet_op; refine hK _ ?_; clear hK K)
      | (refine T_lazy (v := undef) rfl rfl rfl rfl (fun hgw => absurd hgw (by decide)) (fun K hK => ?_); (simp only [Act.put, List.setIfInBounds_toArray, List.set_cons_succ, List.set_cons_zero]; refine hK _ ?_; clear hK K))
      | (refine T_lazy2 (v := undef) rfl rfl rfl rfl (fun _ hgw => absurd hgw (by decide)) (fun K hK => ?_); (simp only [Act.put, List.setIfInBounds_toArray, List.set_cons_succ, List.set_cons_zero]; refine hK _ ?_; clear hK K))
      | (refine T_lazy (v := ?_) rfl rfl rfl rfl ?_ (fun K hK => ?_); rotate_left; (rintro hgw w1 ⟨φ1, rfl⟩; unfold Oper.quietAt; (try rw [hgw]); go_simp; (try simp (disch := omega) only [i64_in, w64_in]); exact rfl); (simp only [Act.put, List.setIfInBounds_toArray, List.set_cons_succ, List.set_cons_zero]; refine hK _ ?_; clear hK K))
      | (refine T_lazy (v := ?_) rfl rfl rfl rfl ?_ (fun K hK => ?_); rotate_left; (rintro hgw w1 ⟨φ1, rfl⟩; unfold Oper.quietAt; go_simp; (try simp (disch := omega) only [i64_in, w64_in]); exact rfl); (simp only [Act.put, List.setIfInBounds_toArray, List.set_cons_succ, List.set_cons_zero]; refine hK _ ?_; clear hK K))
      | (refine T_lazy2 (v := ?_) rfl rfl rfl rfl ?_ (fun K hK => ?_); rotate_left; (rintro hgc hgw w1 ⟨φ1, rfl⟩; unfold Oper.quietAt; (try rw [hgc]); (try rw [hgw]); go_simp; (try simp (disch := omega) only [i64_in, w64_in]); exact rfl); (simp only [Act.put, List.setIfInBounds_toArray, List.set_cons_succ, List.set_cons_zero]; refine hK _ ?_; clear hK K))
      | (refine T_store rfl rfl rfl ?_ ?_; (rintro w1 ⟨d1, rfl⟩; go_simp; exact ⟨_, rfl⟩))
    refine T_nil (fun d2 => ?_)
    go_wp2_with (simp only [HCl'.out])
    go_ret
    obtain ⟨hg2, hfin, hu2, hs2, hlen3⟩ := HF.out
    refine ⟨_, rfl, ?_, hlen3, hfin, (hu2.trans (Upd.setRow _ _ _)).trans (Upd.of_below (below_ext _ _ _))⟩
    rw [heap_ext _ _ _ (by rw [size_setRow]; omega)]
    exact heap_setRow_same _ _ _ _ _ _ hg2
end Go.Proofs.Ytlhbnpahplpobaa
