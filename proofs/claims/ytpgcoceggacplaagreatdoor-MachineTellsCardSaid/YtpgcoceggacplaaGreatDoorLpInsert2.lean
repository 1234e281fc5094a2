/- slices.Insert at the end and within the capacity. -/
import Derived.Test.YtpgcoceggacplaaGreatDoorLpInsert
set_option linter.unusedVariables false
set_option linter.unusedSimpArgs false
set_option maxRecDepth 20000
namespace Go.Proofs.YtpgcoceggacplaaGreatDoor
open Go.RowKit Go.Lp

set_option maxHeartbeats 1000000 in
/-- at the end: an append -/
theorem insert_end (v : Value) (n V vc : Nat) (w : World) (HA : Hid (∃ v' w', (Builtin.append_ #[96, 96] 96 #[v, .slice (some ⟨V, 0, none⟩) 1 vc]).run Tryz.prog w = .ok v' w')) (a : Option Addr) (c : Nat) (hv : v = .slice a n c) (hn2 : n ≤ 4096) :
    Calls Tryz.prog 41 #[v, .int .i64 n, .slice (some ⟨V, 0, none⟩) 1 vc] w fun e w' => ∃ v', (Builtin.append_ #[96, 96] 96 #[v, .slice (some ⟨V, 0, none⟩) 1 vc]).run Tryz.prog w = .ok v' w' ∧ e = .returned v' := by
  subst hv
  obtain ⟨v', w', HA⟩ := HA.out
  by_cases hcn : c = n
  · subst hcn
    have HA' := Lib.hid HA
    clear HA
    go_enter Tryz.func41, Tryz.ntmps41
    go_wp2_with (refine wpList_run (o := ⟨some 25, _, _, _, _, _⟩) rfl _ _ (exec_builtin HA'.out rfl) (fun K hK => ?_); simp only [Act.put, List.setIfInBounds_toArray, List.set_cons_succ, List.set_cons_zero]; refine hK _ _ ?_; clear hK K)
    go_ret
    exact ⟨v', HA'.out, rfl⟩
  · have HA' := Lib.hid HA
    clear HA
    go_enter Tryz.func41, Tryz.ntmps41
    go_wp2_with (refine wpList_run (o := ⟨some 25, _, _, _, _, _⟩) rfl _ _ (exec_builtin HA'.out rfl) (fun K hK => ?_); simp only [Act.put, List.setIfInBounds_toArray, List.set_cons_succ, List.set_cons_zero]; refine hK _ _ ?_; clear hK K)
    go_ret
    exact ⟨v', HA'.out, rfl⟩

theorem take_insert2 {xs cur news : List Value} {a m : Nat} (hx : xs = cur.take m) (hn : news.length = 6) (ha : a ≤ m) (hl : m + 6 ≤ cur.length) :
    (splice (splice cur (a + 6) (xs.drop a)) a news).take (m + 6) = xs.take a ++ news ++ xs.drop a := by
  subst hx
  have hxl : (cur.take m).length = m := by simp; omega
  have e0 : (cur.take (a + 6)).length = a + 6 := by simp; omega
  have e1 : (splice cur (a + 6) ((cur.take m).drop a)).take a = (cur.take m).take a := by
    unfold splice
    rw [List.take_append_of_le_length (by omega), List.take_take, List.take_take, Nat.min_eq_left (by omega), Nat.min_eq_left (by omega)]
  have e2 : (splice cur (a + 6) ((cur.take m).drop a)).drop (a + 6) = (cur.take m).drop a ++ cur.drop (a + 6 + ((cur.take m).drop a).length) := by
    unfold splice
    rw [List.drop_append_of_le_length (by omega), List.drop_of_length_le (by omega), List.nil_append]
  have e3 : splice (splice cur (a + 6) ((cur.take m).drop a)) a news = (cur.take m).take a ++ news ++ (cur.take m).drop a ++ cur.drop (a + 6 + ((cur.take m).drop a).length) := by
    have g : ∀ X : List Value, splice X a news = X.take a ++ news ++ X.drop (a + 6) := fun X => by unfold splice; rw [hn, List.append_assoc]
    rw [g, e1, e2]
    simp only [List.append_assoc]
  rw [e3, List.take_append_of_le_length (by simp; omega), List.take_of_length_le (by simp; omega)]

set_option maxHeartbeats 1000000 in
theorem insert_room (B n c i V vc : Nat) (cur : List Value) (news : List Value) (w : World) (hB : w.heap[B]? = some (.cells cur.toArray 83 (0, 0))) (hcur : cur.length = c * 6) (hi : i < n) (hc : n + 1 ≤ c) (hn2 : n ≤ 4096) (hcm : c ≤ maxLen)
    (hV : w.heap[V]? = some (.cells news.toArray 83 (0, 0))) (hne : V ≠ B) (hnews : news.length = 6) (h1 : ∀ v ∈ news, v.oneCell' = true) (h1c : ∀ v ∈ cur.take (n * 6), v.oneCell' = true) :
    Calls Tryz.prog 41 #[.slice (some ⟨B, 0, none⟩) n c, .int .i64 i, .slice (some ⟨V, 0, none⟩) 1 vc] w fun e w' => ∃ cur' : List Value, e = .returned (.slice (some ⟨B, 0, none⟩) (n + 1) c) ∧
      w'.heap[B]? = some (.cells cur'.toArray 83 (0, 0)) ∧ cur'.length = c * 6 ∧ cur'.take ((n + 1) * 6) = (cur.take (n * 6)).take (i * 6) ++ news ++ (cur.take (n * 6)).drop (i * 6) ∧ Upd B w w' := by
  unfold maxLen at hcm
  have hi' : ((i : Int) == n) = false := by simp; omega
  have hBs := lt_of_heap hB
  obtain ⟨i0, z, hi0, hz, hzs, hsz, hby⟩ := info_parts6
  have hsz' : (Tryz.prog.info? 83).map (·.size) = some 6 := by rw [hi0]; simp [hsz]
  have hsizeOf : ∀ w, (Go.sizeOf 83).run Tryz.prog w = .ok 6 w := fun w => by simp [sizeOf, typeInfo, hi0, hsz]
  have hshape : ∀ b (l : List Value), w.heap[b]? = some (.cells l.toArray 83 (0, 0)) → w.shape? b = some (83, l.length) := fun b l h => by unfold World.shape?; rw [h]; simp
  have hfro : ∀ o, w.frozen? ⟨V, o, none⟩ = false := fun o => by unfold World.frozen?; rw [hV]; simp
  have hov : ∀ o lb cb, (callFunc 101 #[.slice (some ⟨V, 0, none⟩) 1 vc, .slice (some ⟨B, o, none⟩) lb cb]).run Tryz.prog w = .ok (.value (.bool false)) w := fun o lb cb => by
    rw [run_callFunc_extern Tryz.func101 (by kernel_rfl) (by kernel_rfl) (by kernel_rfl) (e := Extern.SlicesOverlaps.overlaps #[96, 96] #[4]) (by kernel_rfl),
      Lib.run_overlaps_apart w 96 4 83 Tryz.underlying96 6 hsizeOf ⟨V, 0, none⟩ ⟨B, o, none⟩ 1 vc lb cb hne _ _ _ _ (hshape V news hV) (hshape B cur hB) (by omega) (hfro 0) (hfro _)]
    rfl
  -- the first copy
  have hl2 : ((cur.take (n * 6)).drop (i * 6)).length = (n - i) * 6 := by simp; omega
  have HC2 := fun d => run_copy_rows (P := Tryz.prog) (w.ext #[] d) 96 96 3 83 6 B ((i + 1) * 6) (n - i) (c - (i + 1)) ⟨B, i * 6, none⟩ (n + 1 - i) (c - i) cur.toArray _ ((cur.take (n * 6)).drop (i * 6)) Tryz.underlying96 hsz'
    (by rw [heap_ext _ _ _ hBs]; exact hB) (by rw [hl2]; show _ = min (n + 1 - i) (n - i) * 6; rw [Nat.min_eq_right (by omega)]) (fun j v hj => by
      rw [List.getElem?_drop, List.getElem?_take] at hj
      split at hj
      · have e : (w.ext #[] d).heap[B]? = some (.cells cur.toArray 83 (0, 0)) := by rw [heap_ext _ _ _ hBs]; exact hB
        have : (w.ext #[] d).cell? ⟨B, i * 6 + j, none⟩ = some v := by rw [cell_of_heap e]; simpa using hj
        unfold Addr.add; split
        · rename_i h; subst h; simpa using this
        · exact this
      · cases hj) (by rw [hl2]; simp; omega) (one_drop h1c _)
  rw [show (n + 1 - i).min (n - i) = n - i from Nat.min_eq_right (by omega)] at HC2
  generalize hw2 : w.setRow B (splice cur.toArray.toList ((i + 1) * 6) ((cur.take (n * 6)).drop (i * 6))).toArray = w2 at HC2
  replace HC2 : ∀ d, ((Builtin.copy_ #[96, 96] 3 #[.slice (some ⟨B, (i + 1) * 6, none⟩) (n - i) (c - (i + 1)), .slice (some ⟨B, i * 6, none⟩) (n + 1 - i) (c - i)]).run Tryz.prog (w.ext #[] d)) = .ok (goInt (n - i : Nat)) (w2.ext #[] d) := fun d => by
    rw [HC2 d, setRow_ext _ _ _ _ _ hBs, hw2]
  have hg2 : w2.heap[B]? = some (.cells (splice cur ((i + 1) * 6) ((cur.take (n * 6)).drop (i * 6))).toArray 83 (0, 0)) := by rw [← hw2]; exact heap_setRow_same _ _ _ _ _ _ hB
  have hu2 : Upd B w w2 := by rw [← hw2]; exact Upd.setRow _ _ _
  have hs2 : w2.heap.size = w.heap.size := by rw [← hw2, size_setRow]
  have hlen2 : (splice cur ((i + 1) * 6) ((cur.take (n * 6)).drop (i * 6))).length = c * 6 := by rw [length_splice _ _ _ (by rw [hl2]; omega)]; exact hcur
  clear hw2
  -- the second
  have HC1 := fun d => run_copy_rows (P := Tryz.prog) (w2.ext #[] d) 96 96 3 83 6 B (i * 6) (n + 1 - i) (c - i) ⟨V, 0, none⟩ 1 vc _ _ news Tryz.underlying96 hsz' (by rw [heap_ext _ _ _ (by omega)]; exact hg2)
    (by rw [hnews]; show 6 = min 1 (n + 1 - i) * 6; rw [Nat.min_eq_left (by omega)]) (fun j v hj => by
      have hVs := lt_of_heap hV
      have e : (w2.ext #[] d).heap[V]? = some (.cells news.toArray 83 (0, 0)) := by rw [heap_ext _ _ _ (by omega), hu2.block V hVs hne]; exact hV
      have : (w2.ext #[] d).cell? ⟨V, j, none⟩ = some v := by rw [cell_of_heap e]; simpa using hj
      unfold Addr.add; split
      · rename_i h; subst h; exact this
      · simpa using this) (by simp [hlen2, hnews]; omega) h1
  rw [show Nat.min 1 (n + 1 - i) = 1 from Nat.min_eq_left (by omega)] at HC1
  have hfin := take_insert2 (xs := cur.take (n * 6)) (a := i * 6) (m := n * 6) (news := news) (cur := cur) rfl hnews (by omega) (by omega)
  rw [show i * 6 + 6 = (i + 1) * 6 by omega, show n * 6 + 6 = (n + 1) * 6 by omega] at hfin
  have hlen3 : (splice (splice cur ((i + 1) * 6) ((cur.take (n * 6)).drop (i * 6))) (i * 6) news).length = c * 6 := by rw [length_splice _ _ _ (by rw [hnews, hlen2]; omega)]; exact hlen2
  have HF := Lib.hid (And.intro hg2 (And.intro hfin (And.intro hu2 (And.intro hs2 hlen3))))
  have HC1' := Lib.hid HC1
  have HC2' := Lib.hid HC2
  clear hlen3 HC1 HC2 hg2 hfin hu2 hs2 hlen2 hl2 hi0 hz hzs hsz hby hsz' hB hcur hV hnews h1 h1c hshape hfro hsizeOf
  have hci : ¬ c = i := by omega
  have hci1 : ¬ c = i + 1 := by omega
  go_enter Tryz.func41, Tryz.ntmps41
  go_upto_region 15 with (first | (simp only [hov]))
  refine wp_region_st 8 w2 rfl (by kernel_rfl) (by kernel_rfl) ?_
  repeat
    first
    | (refine T_write (v := ?_) rfl rfl ?_ (fun K hK => ?_); rotate_left; (rintro w1 ⟨d1, rfl⟩; simp only [wif_false, wif_true]; rw [exec_builtin (HC2'.out d1) rfl]; exact uponPh_value (show Dr w2 _ from ⟨d1, rfl⟩)); (simp only [Act.put, List.setIfInBounds_toArray, List.set_cons_succ, List.set_cons_zero]; refine hK _ ?_; clear hK K))
    | (refine T_pick_or rfl rfl rfl rfl rfl (fun K hK => ?_); simp only [Act.put, List.setIfInBounds_toArray, List.set_cons_succ, List.set_cons_zero]; refine hK _ ?_; clear hK K)
    | (refine T_pick_and rfl rfl rfl rfl rfl (fun K hK => ?_); simp only [Act.put, List.setIfInBounds_toArray, List.set_cons_succ, List.set_cons_zero]; refine hK _ ?_; clear hK K)
    | (refine T_lazy_pick_or rfl rfl rfl rfl rfl rfl (fun K hK => ?_); simp only [Act.put, List.setIfInBounds_toArray, List.set_cons_succ, List.set_cons_zero]; refine hK _ ?_; clear hK K)
    | (refine T_lazy_pick_and rfl rfl rfl rfl rfl rfl (fun K hK => ?_); simp only [Act.put, List.setIfInBounds_toArray, List.set_cons_succ, List.set_cons_zero]; refine hK _ ?_; clear hK K)
    | (refine T_quiet rfl rfl rfl (fun K hK => ?_); go_big_quiet_op; refine hK _ ?_; clear hK K)
    | (refine T_lazy (v := undef) rfl rfl rfl rfl (fun hgw => absurd hgw (by decide)) (fun K hK => ?_); (simp only [Act.put, List.setIfInBounds_toArray, List.set_cons_succ, List.set_cons_zero]; refine hK _ ?_; clear hK K))
    | (refine T_lazy2 (v := undef) rfl rfl rfl rfl (fun _ hgw => absurd hgw (by decide)) (fun K hK => ?_); (simp only [Act.put, List.setIfInBounds_toArray, List.set_cons_succ, List.set_cons_zero]; refine hK _ ?_; clear hK K))
    | (refine T_lazy (v := ?_) rfl rfl rfl rfl ?_ (fun K hK => ?_); rotate_left; (rintro hgw w1 ⟨φ1, rfl⟩; unfold Oper.quietAt; (try rw [hgw]); go_simp; (try simp (disch := omega) only [i64_in, w64_in]); exact rfl); (simp only [Act.put, List.setIfInBounds_toArray, List.set_cons_succ, List.set_cons_zero]; refine hK _ ?_; clear hK K))
    | (refine T_lazy (v := ?_) rfl rfl rfl rfl ?_ (fun K hK => ?_); rotate_left; (rintro hgw w1 ⟨φ1, rfl⟩; unfold Oper.quietAt; go_simp; (try simp (disch := omega) only [i64_in, w64_in]); exact rfl); (simp only [Act.put, List.setIfInBounds_toArray, List.set_cons_succ, List.set_cons_zero]; refine hK _ ?_; clear hK K))
    | (refine T_lazy2 (v := ?_) rfl rfl rfl rfl ?_ (fun K hK => ?_); rotate_left; (rintro hgc hgw w1 ⟨φ1, rfl⟩; unfold Oper.quietAt; (try rw [hgc]); (try rw [hgw]); go_simp; (try simp (disch := omega) only [i64_in, w64_in]); exact rfl); (simp only [Act.put, List.setIfInBounds_toArray, List.set_cons_succ, List.set_cons_zero]; refine hK _ ?_; clear hK K))
    | (refine T_store rfl rfl rfl ?_ ?_; (rintro w1 ⟨d1, rfl⟩; go_simp; exact ⟨_, rfl⟩))
  refine T_nil (fun d2 => ?_)
  go_wp2_with (refine wpList_run (o := ⟨some 82, _, _, _, _, _⟩) rfl _ _ (exec_builtin (HC1'.out _) rfl) (fun K hK => ?_); simp only [Act.put, List.setIfInBounds_toArray, List.set_cons_succ, List.set_cons_zero]; refine hK _ _ ?_; clear hK K)
  go_ret
  obtain ⟨hg2, hfin, hu2, hs2, hlen3⟩ := HF.out
  refine ⟨rfl, _, ?_, hlen3, by rw [List.append_assoc] at hfin; exact hfin, (hu2.trans (Upd.of_below (below_ext _ _ _))).trans (Upd.setRow _ _ _)⟩
  exact heap_setRow_same _ _ _ _ _ _ (by rw [heap_ext _ _ _ (by omega)]; exact hg2)
end Go.Proofs.YtpgcoceggacplaaGreatDoor
