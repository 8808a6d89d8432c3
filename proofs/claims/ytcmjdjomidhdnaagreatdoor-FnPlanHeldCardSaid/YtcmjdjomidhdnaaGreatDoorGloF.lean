/- slices.Insert at the store's items, walked. Conditions: none. -/
import Derived.Test.YtcmjdjomidhdnaaGreatDoorGloE
import Derived.Shelf.Spec.SlicesInsertGrow
import Derived.Test.YtcmjdjomidhdnaaGreatDoorGloD
namespace Go.Proofs.AI
open Go.RowKit Go.Proofs Go.Lib Go.Shelf
set_option linter.unusedVariables false
set_option linter.unusedSimpArgs false
set_option maxRecDepth 100000
theorem setCells_heap_eq {W W1 : World} (h : W.heap = W1.heap) (B o : Nat) (vs : List Value) : (W.setCells B o vs).heap = (W1.setCells B o vs).heap := by
  induction vs generalizing W W1 o with
  | nil => exact h
  | cons v vs ih => exact ih (by simp only [World.setCell, h]) (o + 1)
theorem zc_size (z : Value) (k : Nat) : (Builtin.zeroCells z.cells k).size = k * z.cells.size := by simp [Builtin.zeroCells]
set_option maxHeartbeats 4000000 in
theorem ins_end_room (w : World) (g n c h vc : Nat) (olds news : List Value) (hc : n + 1 ≤ c) (hcm : c ≤ maxLen) (hol : olds.length = n * 2) (hnl : news.length = 2) (h1n : ∀ v ∈ news, v.oneCell' = true)
    (cur : Array Value) (hg : w.heap[g]? = some (.cells cur 75 (0, 0))) (hcur : cur.size = c * 2) (hold : ∀ q, q < n * 2 → cur[q]? = olds[q]?) (hcu : Array Value) (hh : w.heap[h]? = some (.cells hcu 75 (0, 0))) (hnew : ∀ q, q < 2 → hcu[q]? = news[q]?) :
    Calls Tryz.prog 97 #[.slice (some ⟨g, 0, none⟩) n c, .int .i64 n, .slice (some ⟨h, 0, none⟩) 1 vc] w fun ed w' => ∃ (g' c' : Nat) (cur' : Array Value), ed = .returned (.slice (some ⟨g', 0, none⟩) (n + 1) c') ∧ w'.heap[g']? = some (.cells cur' 75 (0, 0)) ∧ cur'.size = c' * 2 ∧ n + 1 ≤ c' ∧ c' ≤ maxLen ∧
    (∀ q, q < (n + 1) * 2 → cur'[q]? = (olds.take (n * 2) ++ news ++ olds.drop (n * 2))[q]?) ∧ ((some g) = some g' ∨ w.heap.size ≤ g') ∧ (∀ b, b < w.heap.size → (some g) ≠ some b → w'.heap[b]? = w.heap[b]?) ∧ w'.os = w.os ∧ w'.tape = w.tape ∧ w'.output = w.output ∧ w.heap.size ≤ w'.heap.size := by
  have mixed : Tryz.prog.follows .mixedOrders = true := rfl
  obtain ⟨i0, hi0, hzs, hzb, hzz⟩ := item_info
  have t33 : Tryz.prog.underlying 33 = some (.slice 75) := rfl
  have t3 : Tryz.prog.underlying 3 = some (.int .i64) := rfl
  have t4 : Tryz.prog.underlying 4 = some .bool := rfl
  have u33 := run_underlying t33
  have u3 := run_underlying t3
  have u4 := run_underlying t4
  have a33 := isAgg_of t33
  have a3 := isAgg_of t3
  have a4 := isAgg_of t4
  simp only [TypeDesc.isRow] at a33 a3 a4
  have z75 : ∀ w, (Go.sizeOf 75).run Tryz.prog w = .ok 2 w := fun w => by rw [sizeOf_of hi0, hzs]
  obtain ⟨i33, e33, s33, y33⟩ : ∃ i : TypeInfo, Tryz.prog.info? 33 = some i ∧ i.size = 1 ∧ i.zero = some (.slice none 0 0) := ⟨_, rfl, rfl, rfl⟩
  obtain ⟨i3, e3, q3, y3⟩ : ∃ i : TypeInfo, Tryz.prog.info? 3 = some i ∧ i.size = 1 ∧ i.zero = some (.int .i64 0) := ⟨_, rfl, rfl, rfl⟩
  obtain ⟨i4, e4, q4, y4⟩ : ∃ i : TypeInfo, Tryz.prog.info? 4 = some i ∧ i.size = 1 ∧ i.zero = some (.bool false) := ⟨_, rfl, rfl, rfl⟩
  have z33 : ∀ w, (Go.sizeOf 33).run Tryz.prog w = .ok 1 w := fun w => by rw [sizeOf_of e33, s33]
  have z3 : ∀ w, (Go.sizeOf 3).run Tryz.prog w = .ok 1 w := fun w => by rw [sizeOf_of e3, q3]
  have z4 : ∀ w, (Go.sizeOf 4).run Tryz.prog w = .ok 1 w := fun w => by rw [sizeOf_of e4, q4]
  have v33 := zero_of e33 y33
  have v3 := zero_of e3 y3
  have v4 := zero_of e4 y4
  have v75 := zero_of hi0 hzz
  have hm : c ≤ 9223372036854775807 := by unfold maxLen at hcm; omega
  have hrun : ∀ ty, (Builtin.append_ #[33, 33] ty #[.slice (some ⟨g, 0, none⟩) n c, .slice (some ⟨h, 0, none⟩) 1 vc]).run Tryz.prog w = .ok (.slice (some ⟨g, 0, none⟩) (n + 1) c) (w.setCells g (0 + n * i0.size) news) := fun ty =>
    run_append_room_cells w 33 ty 75 i0 t33 hi0 g 0 n c ⟨h, 0, none⟩ 1 vc news (by rw [hnl, hzs]) (fun j u hj => by
      rw [Addr.add_lit, cell_of hh, Nat.zero_add, hnew j (by have := (List.getElem?_eq_some_iff.1 hj).1; omega)]; exact hj) h1n hc
      (fun j hj => by rw [cell_of hg, hzs, Array.getElem?_eq_getElem (by omega)]; rfl) (fun j hj => frozen_of hg _)
  obtain ⟨cur', c1, c2, c3, c4⟩ := setCells_heap g news (0 + n * i0.size) w hg
  have o1 := oth_setCells g news (0 + n * i0.size) w
  rw [hzs] at hrun c1 c3 c4 o1
  obtain ⟨W1, hW1⟩ : ∃ W1, W1 = w.setCells g (0 + n * 2) news := ⟨_, rfl⟩
  rw [← hW1] at hrun c1 o1
  have fin : Hid (∃ (g' c' : Nat) (cur' : Array Value), Ending.returned (.slice (some ⟨g, 0, none⟩) (n + 1) c) = .returned (.slice (some ⟨g', 0, none⟩) (n + 1) c') ∧ W1.heap[g']? = some (.cells cur' 75 (0, 0)) ∧ cur'.size = c' * 2 ∧ n + 1 ≤ c' ∧ c' ≤ maxLen ∧
    (∀ q, q < (n + 1) * 2 → cur'[q]? = (olds.take (n * 2) ++ news ++ olds.drop (n * 2))[q]?) ∧ (some g = some g' ∨ w.heap.size ≤ g') ∧ (∀ b, b < w.heap.size → some g ≠ some b → W1.heap[b]? = w.heap[b]?) ∧ W1.os = w.os ∧ W1.tape = w.tape ∧ W1.output = w.output ∧ w.heap.size ≤ W1.heap.size) := by
    refine ⟨g, c, cur', rfl, c1, by rw [c2, hcur], hc, hcm, fun q hq => ?_, .inl rfl, fun b hb hne => o1.block b hb (fun e => hne (by rw [e])), o1.os, o1.tape, o1.output, o1.size⟩
    rw [List.take_of_length_le (by omega), List.drop_eq_nil_of_le (by omega), List.append_nil]
    by_cases hlt : q < n * 2
    · rw [List.getElem?_append_left (by omega), c3 q (by omega), hold q hlt]
    · obtain ⟨t, rfl⟩ : ∃ t, q = n * 2 + t := ⟨q - n * 2, by omega⟩
      rw [List.getElem?_append_right (by omega), hol, Nat.add_sub_cancel_left]
      have ht : t < news.length := by omega
      have := c4 t _ (List.getElem?_eq_getElem ht) (by omega)
      rw [show 0 + n * 2 + t = n * 2 + t by omega] at this
      rw [this, List.getElem?_eq_getElem ht]
  clear hW1 c1 c2 c3 c4 o1 hg hh hold hnew
  go_enter Tryz.func97, Tryz.ntmps97
  go_wp2_with (at_builtin; refine Lib.wpList_append_run _ rfl _ _ _ _ rfl _ _ rfl rfl _ _ (hrun _) ?_)
  go_ret
  exact fin.out
set_option maxHeartbeats 4000000 in
theorem ins_end_grow (w : World) (A : Option Nat) (n c h vc : Nat) (olds news : List Value) (hn : n ≤ 1000) (hnc : n ≤ c) (hc : c < n + 1) (hol : olds.length = n * 2) (hnl : news.length = 2) (h1n : ∀ v ∈ news, v.oneCell' = true)
    (hA0 : A = none → n = 0 ∧ c = 0) (hA : ∀ g, A = some g → ∃ cur : Array Value, w.heap[g]? = some (.cells cur 75 (0, 0)) ∧ ∀ q, q < n * 2 → cur[q]? = olds[q]?) (hcu : Array Value) (hh : w.heap[h]? = some (.cells hcu 75 (0, 0))) (hnew : ∀ q, q < 2 → hcu[q]? = news[q]?) :
    Calls Tryz.prog 97 #[.slice (A.map fun g => ⟨g, 0, none⟩) n c, .int .i64 n, .slice (some ⟨h, 0, none⟩) 1 vc] w fun ed w' => ∃ (g' c' : Nat) (cur' : Array Value), ed = .returned (.slice (some ⟨g', 0, none⟩) (n + 1) c') ∧ w'.heap[g']? = some (.cells cur' 75 (0, 0)) ∧ cur'.size = c' * 2 ∧ n + 1 ≤ c' ∧ c' ≤ maxLen ∧
    (∀ q, q < (n + 1) * 2 → cur'[q]? = (olds.take (n * 2) ++ news ++ olds.drop (n * 2))[q]?) ∧ ((A) = some g' ∨ w.heap.size ≤ g') ∧ (∀ b, b < w.heap.size → (A) ≠ some b → w'.heap[b]? = w.heap[b]?) ∧ w'.os = w.os ∧ w'.tape = w.tape ∧ w'.output = w.output ∧ w.heap.size ≤ w'.heap.size := by
  have mixed : Tryz.prog.follows .mixedOrders = true := rfl
  obtain ⟨i0, hi0, hzs, hzb, hzz⟩ := item_info
  have t33 : Tryz.prog.underlying 33 = some (.slice 75) := rfl
  have t3 : Tryz.prog.underlying 3 = some (.int .i64) := rfl
  have t4 : Tryz.prog.underlying 4 = some .bool := rfl
  have u33 := run_underlying t33
  have u3 := run_underlying t3
  have u4 := run_underlying t4
  have a33 := isAgg_of t33
  have a3 := isAgg_of t3
  have a4 := isAgg_of t4
  simp only [TypeDesc.isRow] at a33 a3 a4
  have z75 : ∀ w, (Go.sizeOf 75).run Tryz.prog w = .ok 2 w := fun w => by rw [sizeOf_of hi0, hzs]
  obtain ⟨i33, e33, s33, y33⟩ : ∃ i : TypeInfo, Tryz.prog.info? 33 = some i ∧ i.size = 1 ∧ i.zero = some (.slice none 0 0) := ⟨_, rfl, rfl, rfl⟩
  obtain ⟨i3, e3, q3, y3⟩ : ∃ i : TypeInfo, Tryz.prog.info? 3 = some i ∧ i.size = 1 ∧ i.zero = some (.int .i64 0) := ⟨_, rfl, rfl, rfl⟩
  obtain ⟨i4, e4, q4, y4⟩ : ∃ i : TypeInfo, Tryz.prog.info? 4 = some i ∧ i.size = 1 ∧ i.zero = some (.bool false) := ⟨_, rfl, rfl, rfl⟩
  have z33 : ∀ w, (Go.sizeOf 33).run Tryz.prog w = .ok 1 w := fun w => by rw [sizeOf_of e33, s33]
  have z3 : ∀ w, (Go.sizeOf 3).run Tryz.prog w = .ok 1 w := fun w => by rw [sizeOf_of e3, q3]
  have z4 : ∀ w, (Go.sizeOf 4).run Tryz.prog w = .ok 1 w := fun w => by rw [sizeOf_of e4, q4]
  have v33 := zero_of e33 y33
  have v3 := zero_of e3 y3
  have v4 := zero_of e4 y4
  have v75 := zero_of hi0 hzz
  have hsrc : Src Tryz.prog i0.size 33 (.slice (some ⟨h, 0, none⟩) 1 vc) 1 news w := by
    rw [hzs]
    exact Src.ofSlice w t33 ⟨h, 0, none⟩ 1 vc news (by omega) (fun j u hj => by
      rw [Addr.add_lit, cell_of hh, Nat.zero_add, hnew j (by have := (List.getElem?_eq_some_iff.1 hj).1; omega)]; exact hj) h1n
  have hold : (Builtin.firstCells i0.size n (.slice (A.map fun g => ⟨g, 0, none⟩) n c)).run Tryz.prog w.drew = .ok olds.toArray w.drew := by
    rw [hzs]
    cases A with
    | none =>
      obtain ⟨rfl, rfl⟩ := hA0 rfl
      rw [List.length_eq_zero_iff.1 hol]
      exact run_firstCells_none w.drew 2 0 0 0
    | some g =>
      obtain ⟨cur, hg, ho⟩ := hA g rfl
      exact run_firstCells_some w.drew 2 n ⟨g, 0, none⟩ n c olds hol (fun j v hj => by
        rw [Addr.add_lit, Nat.zero_add]
        refine (cell_of (w := w.drew) hg j).trans ?_
        rw [ho j (by have := (List.getElem?_eq_some_iff.1 hj).1; omega)]; exact hj)
  have hrun := fun ty => run_append_grow_src w 33 33 ty 75 i0 _ t33 hi0 hzz (A.map fun g => ⟨g, 0, none⟩) n c olds hold _ 1 news hsrc hc (by omega) (by rw [hzb]; exact growslice_fits hc (by omega))
  obtain ⟨G, hG⟩ : ∃ G, G = grownCap w (n + 1) c 75 := ⟨_, rfl⟩
  have hGn : n + 1 ≤ G := by rw [hG]; exact grownCap_ge w _ _ _
  have hGm : G ≤ maxLen := by rw [hG]; exact grownCap_le_maxLen w (n + 1) c 75 (by unfold maxLen; omega)
  rw [← hG] at hrun
  obtain ⟨ROW, hROW⟩ : ∃ ROW : Array Value, ROW = (olds ++ news).toArray ++ Builtin.zeroCells (Value.agg #[.string ⟨#[]⟩, .slice none 0 0]).cells (G - (n + 1)) := ⟨_, rfl⟩
  rw [← hROW] at hrun
  obtain ⟨W1, hW1⟩ : ∃ W1, W1 = w.drew.alloc (.cells ROW 75) := ⟨_, rfl⟩
  rw [← hW1] at hrun
  have fin : Hid (∃ (g' c' : Nat) (cur' : Array Value), Ending.returned (.slice (some ⟨w.heap.size, 0, none⟩) (n + 1) G) = .returned (.slice (some ⟨g', 0, none⟩) (n + 1) c') ∧ W1.heap[g']? = some (.cells cur' 75 (0, 0)) ∧ cur'.size = c' * 2 ∧ n + 1 ≤ c' ∧ c' ≤ maxLen ∧
    (∀ q, q < (n + 1) * 2 → cur'[q]? = (olds.take (n * 2) ++ news ++ olds.drop (n * 2))[q]?) ∧ (A = some g' ∨ w.heap.size ≤ g') ∧ (∀ b, b < w.heap.size → A ≠ some b → W1.heap[b]? = w.heap[b]?) ∧ W1.os = w.os ∧ W1.tape = w.tape ∧ W1.output = w.output ∧ w.heap.size ≤ W1.heap.size) := by
    refine ⟨w.heap.size, G, ROW, rfl, by rw [hW1]; exact heap_alloc_new _ _, ?_, hGn, hGm, fun q hq => ?_, .inr (Nat.le_refl _), fun b hb _ => by rw [hW1]; exact Below.heap_alloc _ _ _ hb, by rw [hW1]; rfl, by rw [hW1]; rfl, by rw [hW1]; rfl, by rw [hW1]; simp [World.alloc]⟩
    · rw [hROW, Array.size_append, zc_size]
      simp only [List.size_toArray, List.length_append, hol, hnl]
      show n * 2 + 2 + (G - (n + 1)) * 2 = G * 2
      omega
    · rw [List.take_of_length_le (by omega), List.drop_eq_nil_of_le (by omega), List.append_nil, hROW, Array.getElem?_append_left (by simp [hol, hnl]; omega)]
      simp
  clear hW1 hROW hG hold hsrc hh hnew hA
  refine Calls.mono (R := fun ed w' => ed = .returned (.slice (some ⟨w.heap.size, 0, none⟩) (n + 1) G) ∧ w' = W1) ?_ (fun ed w' ⟨h1, h2⟩ => by subst h1 h2; exact fin.out)
  clear fin
  go_enter Tryz.func97, Tryz.ntmps97
  cases A with
  | none =>
    obtain ⟨rfl, rfl⟩ := hA0 rfl
    go_wp2_with (at_builtin; refine Lib.wpList_append_run _ rfl _ _ _ _ rfl _ _ rfl rfl _ _ (hrun _) ?_)
    go_ret
    exact ⟨rfl, rfl⟩
  | some g =>
    go_wp2_with (at_builtin; refine Lib.wpList_append_run _ rfl _ _ _ _ rfl _ _ rfl rfl _ _ (hrun _) ?_)
    all_goals (go_ret; exact ⟨rfl, rfl⟩)
set_option maxHeartbeats 4000000 in
theorem ins_shift (w : World) (g n c i h vc : Nat) (olds news : List Value) (hi : i < n) (hn : n ≤ 1000) (hc : n + 1 ≤ c) (hcm : c ≤ maxLen) (hol : olds.length = n * 2) (hnl : news.length = 2) (h1o : ∀ v ∈ olds, v.oneCell' = true) (h1n : ∀ v ∈ news, v.oneCell' = true) (hgh : g ≠ h)
    (cur : Array Value) (hg : w.heap[g]? = some (.cells cur 75 (0, 0))) (hcur : cur.size = c * 2) (hold : ∀ q, q < n * 2 → cur[q]? = olds[q]?) (hcu : Array Value) (hh : w.heap[h]? = some (.cells hcu 75 (0, 0))) (hnew : ∀ q, q < 2 → hcu[q]? = news[q]?) :
    Calls Tryz.prog 97 #[.slice (some ⟨g, 0, none⟩) n c, .int .i64 i, .slice (some ⟨h, 0, none⟩) 1 vc] w fun ed w' => ∃ (g' c' : Nat) (cur' : Array Value), ed = .returned (.slice (some ⟨g', 0, none⟩) (n + 1) c') ∧ w'.heap[g']? = some (.cells cur' 75 (0, 0)) ∧ cur'.size = c' * 2 ∧ n + 1 ≤ c' ∧ c' ≤ maxLen ∧
    (∀ q, q < (n + 1) * 2 → cur'[q]? = (olds.take (i * 2) ++ news ++ olds.drop (i * 2))[q]?) ∧ ((some g) = some g' ∨ w.heap.size ≤ g') ∧ (∀ b, b < w.heap.size → (some g) ≠ some b → w'.heap[b]? = w.heap[b]?) ∧ w'.os = w.os ∧ w'.tape = w.tape ∧ w'.output = w.output ∧ w.heap.size ≤ w'.heap.size := by
  have mixed : Tryz.prog.follows .mixedOrders = true := rfl
  obtain ⟨i0, hi0, hzs, hzb, hzz⟩ := item_info
  have t33 : Tryz.prog.underlying 33 = some (.slice 75) := rfl
  have t3 : Tryz.prog.underlying 3 = some (.int .i64) := rfl
  have t4 : Tryz.prog.underlying 4 = some .bool := rfl
  have u33 := run_underlying t33
  have u3 := run_underlying t3
  have u4 := run_underlying t4
  have a33 := isAgg_of t33
  have a3 := isAgg_of t3
  have a4 := isAgg_of t4
  simp only [TypeDesc.isRow] at a33 a3 a4
  have z75 : ∀ w, (Go.sizeOf 75).run Tryz.prog w = .ok 2 w := fun w => by rw [sizeOf_of hi0, hzs]
  obtain ⟨i33, e33, s33, y33⟩ : ∃ i : TypeInfo, Tryz.prog.info? 33 = some i ∧ i.size = 1 ∧ i.zero = some (.slice none 0 0) := ⟨_, rfl, rfl, rfl⟩
  obtain ⟨i3, e3, q3, y3⟩ : ∃ i : TypeInfo, Tryz.prog.info? 3 = some i ∧ i.size = 1 ∧ i.zero = some (.int .i64 0) := ⟨_, rfl, rfl, rfl⟩
  obtain ⟨i4, e4, q4, y4⟩ : ∃ i : TypeInfo, Tryz.prog.info? 4 = some i ∧ i.size = 1 ∧ i.zero = some (.bool false) := ⟨_, rfl, rfl, rfl⟩
  have z33 : ∀ w, (Go.sizeOf 33).run Tryz.prog w = .ok 1 w := fun w => by rw [sizeOf_of e33, s33]
  have z3 : ∀ w, (Go.sizeOf 3).run Tryz.prog w = .ok 1 w := fun w => by rw [sizeOf_of e3, q3]
  have z4 : ∀ w, (Go.sizeOf 4).run Tryz.prog w = .ok 1 w := fun w => by rw [sizeOf_of e4, q4]
  have v33 := zero_of e33 y33
  have v3 := zero_of e3 y3
  have v4 := zero_of e4 y4
  have v75 := zero_of hi0 hzz
  have hm : c ≤ 9223372036854775807 := by unfold maxLen at hcm; omega
  have hz2 : ¬ ((i : Int) = (n : Int)) := by omega
  have hov : ∀ lb cb, (callFunc 122 #[.slice (some ⟨h, 0, none⟩) 1 vc, .slice (some ⟨g, (i + 1) * 2, none⟩) lb cb]).run Tryz.prog w = .ok (.value (.bool false)) w := fun lb cb => by
    rw [run_callFunc_extern Tryz.func122 (by kernel_rfl) (by kernel_rfl) (by kernel_rfl) (e := Extern.SlicesOverlaps.overlaps #[33, 33] #[4]) (by kernel_rfl),
      Lib.run_overlaps_apart w 33 4 75 t33 2 z75 ⟨h, 0, none⟩ ⟨g, (i + 1) * 2, none⟩ 1 vc lb cb (fun e => hgh e.symm) 75 75 _ _ (shape_of hh) (shape_of hg) (by omega) (frozen_of hh _) (frozen_of hh _)]
    rfl
  obtain ⟨mv, hmv⟩ : ∃ mv, mv = olds.drop (i * 2) := ⟨_, rfl⟩
  have hml : mv.length = (n - i) * 2 := by rw [hmv, List.length_drop, hol]; omega
  have h1m : ∀ v ∈ mv, v.oneCell' = true := fun v hv => h1o v (by rw [hmv] at hv; exact List.mem_of_mem_drop hv)
  have hmat : ∀ j v, mv[j]? = some v → cur[i * 2 + j]? = some v := fun j v hj => by
    have hlt := (List.getElem?_eq_some_iff.1 hj).1
    rw [hmv, List.getElem?_drop] at hj
    rw [hold _ (by omega)]; exact hj
  have hmin1 : Nat.min (n - i) (n + 1 - i) = n - i := by simp only [Nat.min_def]; split <;> omega
  have hcp1 : ∀ ty dc sc, (Builtin.copy_ #[33, 33] ty #[.slice (some ⟨g, (i + 1) * 2, none⟩) (n - i) dc, .slice (some ⟨g, i * 2, none⟩) (n + 1 - i) sc]).run Tryz.prog w.drew = .ok (goInt (Nat.min (n + 1 - i) (n - i))) (w.drew.setCells g ((i + 1) * 2) mv) := fun ty dc sc =>
    run_copy_any w.drew _ _ ty 75 g ((i + 1) * 2) (n - i) dc ⟨g, i * 2, none⟩ (n + 1 - i) sc mv i0 t33 hi0 (by rw [show (n + 1 - i).min (n - i) = n - i by simp only [Nat.min_def]; split <;> omega, hzs, hml])
      (fun j v hj => by rw [Addr.add_lit]; exact (cell_of (w := w.drew) hg _).trans (hmat j v hj))
      (fun j hj => by rw [cell_of (w := w.drew) hg, Array.getElem?_eq_getElem (by omega)]; rfl) (fun j hj => frozen_of (w := w.drew) hg _) h1m
  obtain ⟨W1, hW1⟩ : ∃ W1, W1 = w.drew.setCells g ((i + 1) * 2) mv := ⟨_, rfl⟩
  obtain ⟨cur1, c1, c2, c3, c4⟩ := setCells_heap g mv ((i + 1) * 2) w.drew (cur := cur) (e := 75) (fr := (0, 0)) hg
  have o1 : Oth w W1 g := by rw [hW1]; exact (Oth.drew w g).trans (oth_setCells g _ _ _)
  rw [← hW1] at c1 hcp1
  have hhl : h < w.heap.size := (Array.getElem?_eq_some_iff.1 hh).1
  have hh1 : W1.heap[h]? = some (.cells hcu 75 (0, 0)) := (o1.block h hhl (fun e => hgh e.symm)).trans hh
  have hmin2 : Nat.min 1 (n + 1 - i) = 1 := by simp only [Nat.min_def]; split <;> omega
  have hcp2 : ∀ (W : World), W.heap = W1.heap → ∀ ty dc, (Builtin.copy_ #[33, 33] ty #[.slice (some ⟨g, i * 2, none⟩) (n + 1 - i) dc, .slice (some ⟨h, 0, none⟩) 1 vc]).run Tryz.prog W = .ok (goInt (Nat.min 1 (n + 1 - i))) (W.setCells g (i * 2) news) := fun W hWh ty dc =>
    run_copy_any W _ _ ty 75 g (i * 2) (n + 1 - i) dc ⟨h, 0, none⟩ 1 vc news i0 t33 hi0 (by rw [hmin2, hzs, hnl])
      (fun j v hj => by
        rw [Addr.add_lit, Nat.zero_add, cell_of (w := W) (by rw [hWh]; exact hh1), hnew j (by have := (List.getElem?_eq_some_iff.1 hj).1; omega)]; exact hj)
      (fun j hj => by rw [cell_of (w := W) (by rw [hWh]; exact c1), Array.getElem?_eq_getElem (by omega)]; rfl) (fun j hj => frozen_of (w := W) (by rw [hWh]; exact c1) _) h1n
  have fin : Hid (∀ W : World, W.heap = W1.heap → W.os = W1.os → W.tape = W1.tape → W.output = W1.output → ∃ (g' c' : Nat) (cur' : Array Value), Ending.returned (.slice (some ⟨g, 0, none⟩) (n + 1) c) = .returned (.slice (some ⟨g', 0, none⟩) (n + 1) c') ∧ (W.setCells g (i * 2) news).heap[g']? = some (.cells cur' 75 (0, 0)) ∧ cur'.size = c' * 2 ∧ n + 1 ≤ c' ∧ c' ≤ maxLen ∧
    (∀ q, q < (n + 1) * 2 → cur'[q]? = (olds.take (i * 2) ++ news ++ olds.drop (i * 2))[q]?) ∧ (some g = some g' ∨ w.heap.size ≤ g') ∧ (∀ b, b < w.heap.size → some g ≠ some b → (W.setCells g (i * 2) news).heap[b]? = w.heap[b]?) ∧ (W.setCells g (i * 2) news).os = w.os ∧ (W.setCells g (i * 2) news).tape = w.tape ∧ (W.setCells g (i * 2) news).output = w.output ∧ w.heap.size ≤ (W.setCells g (i * 2) news).heap.size) := by
    intro W e1 e2 e3 e4
    obtain ⟨cur2, d1, d2, d3, d4⟩ := setCells_heap g news (i * 2) W (cur := cur1) (e := 75) (fr := (0, 0)) (by rw [e1]; exact c1)
    have o2 : Oth W1 W g := ⟨e2, e3, e4, by rw [e1]; exact Nat.le_refl _, fun b _ _ => by rw [e1]⟩
    have o3 := o1.trans (o2.trans (oth_setCells g news (i * 2) W))
    refine ⟨g, c, cur2, rfl, d1, by rw [d2, c2, hcur], hc, hcm, fun q hq => ?_, .inl rfl, fun b hb hne => o3.block b hb (fun e => hne (by rw [e])), o3.os, o3.tape, o3.output, o3.size⟩
    have ht : (olds.take (i * 2)).length = i * 2 := by rw [List.length_take, hol]; omega
    have htn : (olds.take (i * 2) ++ news).length = i * 2 + 2 := by rw [List.length_append, ht, hnl]
    by_cases h1 : q < i * 2
    · rw [List.getElem?_append_left (by omega), List.getElem?_append_left (by omega), List.getElem?_take, if_pos h1, d3 q (by omega), c3 q (by omega), hold q (by omega)]
    · by_cases h2 : q < i * 2 + 2
      · obtain ⟨t, rfl⟩ : ∃ t, q = i * 2 + t := ⟨q - i * 2, by omega⟩
        have htl : t < news.length := by omega
        rw [List.getElem?_append_left (by omega), List.getElem?_append_right (by omega), ht, Nat.add_sub_cancel_left, d4 t _ (List.getElem?_eq_getElem htl) (by omega), List.getElem?_eq_getElem htl]
      · obtain ⟨t, rfl⟩ : ∃ t, q = i * 2 + 2 + t := ⟨q - (i * 2 + 2), by omega⟩
        have htl : t < mv.length := by omega
        have e5 := c4 t _ (List.getElem?_eq_getElem htl) (by omega)
        rw [show (i + 1) * 2 + t = i * 2 + 2 + t by omega] at e5
        rw [List.getElem?_append_right (by omega), htn, Nat.add_sub_cancel_left, d3 _ (by omega), e5, ← hmv, List.getElem?_eq_getElem htl]
  have hw1 : IntKind.i64.wrap ((i : Int) + 1) = (i : Int) + 1 := by rw [IntKind.wrap_i64]; omega
  have hw2 : IntKind.i64.wrap ((n : Int) + 1) = (n : Int) + 1 := by rw [IntKind.wrap_i64]; omega
  have hb1 : (0 : Int) ≤ (i : Int) + 1 := by omega
  have hb0 : (0 : Int) ≤ (n : Int) + 1 := by omega
  have hin : i ≤ n := by omega
  have htn : ((i : Int) + 1).toNat = i + 1 := by omega
  have htn2 : ((n : Int) + 1).toNat = n + 1 := by omega
  have hb2 : ¬ (c = i + 1) := by omega
  have hb3 : (i : Int) ≤ (n : Int) + 1 := by omega
  have hb4 : ¬ (c = i) := by omega
  refine Calls.mono (R := fun ed w' => ed = .returned (.slice (some ⟨g, 0, none⟩) (n + 1) c) ∧ ∃ W : World, w' = W.setCells g (i * 2) news ∧ W.heap = W1.heap ∧ W.os = W1.os ∧ W.tape = W1.tape ∧ W.output = W1.output) ?_ (fun ed w' ⟨h1, W, h2, h3, h4, h5, h6⟩ => by subst h1 h2; exact fin.out W h3 h4 h5 h6)
  clear fin hW1 c1 c2 c3 c4 o1 hg hh hh1 hold hnew hmat hml hmv hmin1
  go_enter Tryz.func97, Tryz.ntmps97
  go_wp2_with (simp only [hov])
  go_region_law_o (refine step_copy_runI rfl _ _ 33 33 rfl (.slice (some ⟨g, (i + 1) * 2, none⟩) (n - i) (c - (i + 1))) (.slice (some ⟨g, i * 2, none⟩) (n + 1 - i) (c - i)) (by simp [Act.eval, Act.put]) (by simp [Act.eval, Act.put]) (hcp1 3 (c - (i + 1)) (c - i)) ?_)
  go_wp2_with (at_builtin; refine wpList_copy_runI _ rfl _ _ 33 33 rfl _ _ rfl rfl (hcp2 _ rfl _ _) ?_)
  go_ret
  exact ⟨rfl, _, rfl, rfl, rfl, rfl, rfl⟩
set_option maxHeartbeats 4000000 in
theorem ins_grow (w : World) (g n c i h vc : Nat) (olds news : List Value) (hi : i < n) (hn : n ≤ 1000) (hnc : n ≤ c) (hroom : c < n + 1) (hol : olds.length = n * 2) (hnl : news.length = 2) (h1o : ∀ v ∈ olds, v.oneCell' = true) (h1n : ∀ v ∈ news, v.oneCell' = true)
    (cur : Array Value) (hg : w.heap[g]? = some (.cells cur 75 (0, 0))) (hold0 : ∀ q, q < n * 2 → cur[q]? = olds[q]?) (hcu : Array Value) (hh : w.heap[h]? = some (.cells hcu 75 (0, 0))) (hnew : ∀ q, q < 2 → hcu[q]? = news[q]?) :
    Calls Tryz.prog 97 #[.slice (some ⟨g, 0, none⟩) n c, .int .i64 i, .slice (some ⟨h, 0, none⟩) 1 vc] w fun ed w' => ∃ (g' c' : Nat) (cur' : Array Value), ed = .returned (.slice (some ⟨g', 0, none⟩) (n + 1) c') ∧ w'.heap[g']? = some (.cells cur' 75 (0, 0)) ∧ cur'.size = c' * 2 ∧ n + 1 ≤ c' ∧ c' ≤ maxLen ∧
    (∀ q, q < (n + 1) * 2 → cur'[q]? = (olds.take (i * 2) ++ news ++ olds.drop (i * 2))[q]?) ∧ ((some g) = some g' ∨ w.heap.size ≤ g') ∧ (∀ b, b < w.heap.size → (some g) ≠ some b → w'.heap[b]? = w.heap[b]?) ∧ w'.os = w.os ∧ w'.tape = w.tape ∧ w'.output = w.output ∧ w.heap.size ≤ w'.heap.size := by
  have mixed : Tryz.prog.follows .mixedOrders = true := rfl
  obtain ⟨i0, hi0, hzs, hzb, hzz⟩ := item_info
  have t33 : Tryz.prog.underlying 33 = some (.slice 75) := rfl
  have t3 : Tryz.prog.underlying 3 = some (.int .i64) := rfl
  have t4 : Tryz.prog.underlying 4 = some .bool := rfl
  have u33 := run_underlying t33
  have u3 := run_underlying t3
  have u4 := run_underlying t4
  have a33 := isAgg_of t33
  have a3 := isAgg_of t3
  have a4 := isAgg_of t4
  simp only [TypeDesc.isRow] at a33 a3 a4
  have z75 : ∀ w, (Go.sizeOf 75).run Tryz.prog w = .ok 2 w := fun w => by rw [sizeOf_of hi0, hzs]
  obtain ⟨i33, e33, s33, y33⟩ : ∃ i : TypeInfo, Tryz.prog.info? 33 = some i ∧ i.size = 1 ∧ i.zero = some (.slice none 0 0) := ⟨_, rfl, rfl, rfl⟩
  obtain ⟨i3, e3, q3, y3⟩ : ∃ i : TypeInfo, Tryz.prog.info? 3 = some i ∧ i.size = 1 ∧ i.zero = some (.int .i64 0) := ⟨_, rfl, rfl, rfl⟩
  obtain ⟨i4, e4, q4, y4⟩ : ∃ i : TypeInfo, Tryz.prog.info? 4 = some i ∧ i.size = 1 ∧ i.zero = some (.bool false) := ⟨_, rfl, rfl, rfl⟩
  have z33 : ∀ w, (Go.sizeOf 33).run Tryz.prog w = .ok 1 w := fun w => by rw [sizeOf_of e33, s33]
  have z3 : ∀ w, (Go.sizeOf 3).run Tryz.prog w = .ok 1 w := fun w => by rw [sizeOf_of e3, q3]
  have z4 : ∀ w, (Go.sizeOf 4).run Tryz.prog w = .ok 1 w := fun w => by rw [sizeOf_of e4, q4]
  have v33 := zero_of e33 y33
  have v3 := zero_of e3 y3
  have v4 := zero_of e4 y4
  have v75 := zero_of hi0 hzz
  have hz2 : ¬ ((i : Int) = (n : Int)) := by omega
  have hz3 : (c : Int) < (n : Int) + 1 := by omega
  have hgl : g < w.heap.size := (Array.getElem?_eq_some_iff.1 hg).1
  have hhl : h < w.heap.size := (Array.getElem?_eq_some_iff.1 hh).1
  have hkk : (n : Int) + 1 - (i : Int) = ((n + 1 - i : Nat) : Int) := by omega
  have hik : i + (n + 1 - i) = n + 1 := by omega
  have htk : (olds.take (i * 2)).length = i * 2 := by rw [List.length_take, hol]; omega
  have hold : (Builtin.firstCells i0.size i (.slice (some ⟨g, 0, none⟩) i c)).run Tryz.prog w.drew = .ok (olds.take (i * 2)).toArray w.drew := by
    rw [hzs]
    exact run_firstCells_some w.drew 2 i ⟨g, 0, none⟩ i c (olds.take (i * 2)) htk (fun j v hj => by
      rw [Addr.add_lit, Nat.zero_add]
      have hjl := (List.getElem?_eq_some_iff.1 hj).1
      refine (cell_of (w := w.drew) hg j).trans ?_
      rw [hold0 j (by omega)]
      rw [List.getElem?_take] at hj
      split at hj
      · exact hj
      · cases hj)
  have hrz : ∀ ty, (Builtin.append_ #[33, 3] ty #[.slice (some ⟨g, 0, none⟩) i c, .int .i64 ((n : Int) + 1 - (i : Int))]).run Tryz.prog w =
      .ok (.slice (some ⟨w.heap.size, 0, none⟩) (n + 1) (grownCap w (n + 1) c 75)) (w.drew.alloc (.cells ((olds.take (i * 2)).toArray ++ Builtin.zeroCells (Value.agg #[.string ⟨#[]⟩, .slice none 0 0]).cells (n + 1 - i) ++ Builtin.zeroCells (Value.agg #[.string ⟨#[]⟩, .slice none 0 0]).cells (grownCap w (n + 1) c 75 - (n + 1))) 75)) := fun ty => by
    have h := Lib.run_append_grow_zeros w 33 3 ty 75 i0 _ .i64 .i64 t33 t3 hi0 hzz (some ⟨g, 0, none⟩) i c (olds.take (i * 2)) hold (n + 1 - i) (by omega) (by omega) (by omega) (by omega) (by rw [hzb]; omega) (by rw [hzb, hik]; exact growslice_fits hroom (by omega))
    rw [hik] at h
    rw [hkk]
    exact h
  obtain ⟨G, hG⟩ : ∃ G, G = grownCap w (n + 1) c 75 := ⟨_, rfl⟩
  have hGn : n + 1 ≤ G := by rw [hG]; exact grownCap_ge w _ _ _
  have hGm : G ≤ maxLen := by rw [hG]; exact grownCap_le_maxLen w (n + 1) c 75 (by unfold maxLen; omega)
  have hG63 : G ≤ 9223372036854775807 := by have := hGm; unfold maxLen at this; omega
  rw [← hG] at hrz
  obtain ⟨ROW, hROW⟩ : ∃ ROW : Array Value, ROW = (olds.take (i * 2)).toArray ++ Builtin.zeroCells (Value.agg #[.string ⟨#[]⟩, .slice none 0 0]).cells (n + 1 - i) ++ Builtin.zeroCells (Value.agg #[.string ⟨#[]⟩, .slice none 0 0]).cells (G - (n + 1)) := ⟨_, rfl⟩
  rw [← hROW] at hrz
  have hzc : (Value.agg #[Value.string ⟨#[]⟩, Value.slice none 0 0]).cells.size = 2 := by kernel_rfl
  have hRs : ROW.size = G * 2 := by
    rw [hROW, Array.size_append, Array.size_append, zc_size, zc_size, hzc]
    simp only [List.size_toArray, htk]
    omega
  have hR0 : ∀ q, q < i * 2 → ROW[q]? = olds[q]? := fun q hq => by
    rw [hROW, Array.getElem?_append_left (by rw [Array.size_append, List.size_toArray, htk]; omega), Array.getElem?_append_left (by rw [List.size_toArray, htk]; omega)]
    simp [List.getElem?_take, hq]
  obtain ⟨W1, hW1⟩ : ∃ W1, W1 = w.drew.alloc (.cells ROW 75) := ⟨_, rfl⟩
  have r1 : W1.heap[w.heap.size]? = some (.cells ROW 75 (0, 0)) := by rw [hW1]; exact heap_alloc_new _ _
  have o1 : ∀ b, b < w.heap.size → W1.heap[b]? = w.heap[b]? := fun b hb => by rw [hW1]; exact Below.heap_alloc _ _ _ hb
  have o1b : W1.os = w.os ∧ W1.tape = w.tape ∧ W1.output = w.output ∧ w.heap.size ≤ W1.heap.size := by rw [hW1]; exact ⟨rfl, rfl, rfl, by simp [World.alloc]⟩
  obtain ⟨B, hB⟩ : ∃ B, B = w.heap.size := ⟨_, rfl⟩
  rw [← hB] at hrz r1 o1
  rw [← hW1] at hrz
  have hmin2 : Nat.min (n + 1 - i) 1 = 1 := by simp only [Nat.min_def]; split <;> omega
  have hh1 : W1.heap[h]? = some (.cells hcu 75 (0, 0)) := (o1 h (by omega)).trans hh
  have hg1 : W1.heap[g]? = some (.cells cur 75 (0, 0)) := (o1 g (by omega)).trans hg
  have hcpA : ∀ (W : World), W.heap = W1.heap → ∀ ty dc, (Builtin.copy_ #[33, 33] ty #[.slice (some ⟨B, i * 2, none⟩) (n + 1 - i) dc, .slice (some ⟨h, 0, none⟩) 1 vc]).run Tryz.prog W = .ok (goInt (Nat.min 1 (n + 1 - i))) (W.setCells B (i * 2) news) := fun W hWh ty dc =>
    run_copy_any W _ _ ty 75 B (i * 2) (n + 1 - i) dc ⟨h, 0, none⟩ 1 vc news i0 t33 hi0 (by rw [show Nat.min 1 (n + 1 - i) = 1 by simp only [Nat.min_def]; split <;> omega, hzs, hnl])
      (fun j v hj => by
        rw [Addr.add_lit, Nat.zero_add, cell_of (w := W) (by rw [hWh]; exact hh1), hnew j (by have := (List.getElem?_eq_some_iff.1 hj).1; omega)]; exact hj)
      (fun j hj => by rw [cell_of (w := W) (by rw [hWh]; exact r1), Array.getElem?_eq_getElem (by omega)]; rfl) (fun j hj => frozen_of (w := W) (by rw [hWh]; exact r1) _) h1n
  obtain ⟨ROW2, d1, d2, d3, d4⟩ := setCells_heap B news (i * 2) W1 (cur := ROW) (e := 75) (fr := (0, 0)) r1
  have o2 := oth_setCells B news (i * 2) W1
  obtain ⟨W2, hW2⟩ : ∃ W2, W2 = W1.setCells B (i * 2) news := ⟨_, rfl⟩
  rw [← hW2] at d1 o2
  have hg2 : W2.heap[g]? = some (.cells cur 75 (0, 0)) := (o2.block g (by have := o1b.2.2.2; omega) (by omega)).trans hg1
  obtain ⟨mv, hmv⟩ : ∃ mv, mv = olds.drop (i * 2) := ⟨_, rfl⟩
  have hml : mv.length = (n - i) * 2 := by rw [hmv, List.length_drop, hol]; omega
  have h1m : ∀ v ∈ mv, v.oneCell' = true := fun v hv => h1o v (by rw [hmv] at hv; exact List.mem_of_mem_drop hv)
  have hcpB : ∀ (W : World), W.heap = W2.heap → ∀ ty dc sc, (Builtin.copy_ #[33, 33] ty #[.slice (some ⟨B, (i + 1) * 2, none⟩) (n - i) dc, .slice (some ⟨g, i * 2, none⟩) (n - i) sc]).run Tryz.prog W = .ok (goInt (Nat.min (n - i) (n - i))) (W.setCells B ((i + 1) * 2) mv) := fun W hWh ty dc sc =>
    run_copy_any W _ _ ty 75 B ((i + 1) * 2) (n - i) dc ⟨g, i * 2, none⟩ (n - i) sc mv i0 t33 hi0 (by rw [show Nat.min (n - i) (n - i) = n - i by simp only [Nat.min_def]; split <;> omega, hzs, hml])
      (fun j v hj => by
        have hlt := (List.getElem?_eq_some_iff.1 hj).1
        rw [Addr.add_lit]
        refine (cell_of (w := W) (by rw [hWh]; exact hg2) _).trans ?_
        rw [hmv, List.getElem?_drop] at hj
        rw [hold0 _ (by omega)]; exact hj)
      (fun j hj => by rw [cell_of (w := W) (by rw [hWh]; exact d1), Array.getElem?_eq_getElem (by omega)]; rfl) (fun j hj => frozen_of (w := W) (by rw [hWh]; exact d1) _) h1m
  have fin : Hid (∀ W : World, W.heap = W2.heap → W.os = W1.os → W.tape = W1.tape → W.output = W1.output → ∃ (g' c' : Nat) (cur' : Array Value), Ending.returned (.slice (some ⟨B, 0, none⟩) (n + 1) G) = .returned (.slice (some ⟨g', 0, none⟩) (n + 1) c') ∧ (W.setCells B ((i + 1) * 2) mv).heap[g']? = some (.cells cur' 75 (0, 0)) ∧ cur'.size = c' * 2 ∧ n + 1 ≤ c' ∧ c' ≤ maxLen ∧
    (∀ q, q < (n + 1) * 2 → cur'[q]? = (olds.take (i * 2) ++ news ++ olds.drop (i * 2))[q]?) ∧ (some g = some g' ∨ w.heap.size ≤ g') ∧ (∀ b, b < w.heap.size → some g ≠ some b → (W.setCells B ((i + 1) * 2) mv).heap[b]? = w.heap[b]?) ∧ (W.setCells B ((i + 1) * 2) mv).os = w.os ∧ (W.setCells B ((i + 1) * 2) mv).tape = w.tape ∧ (W.setCells B ((i + 1) * 2) mv).output = w.output ∧ w.heap.size ≤ (W.setCells B ((i + 1) * 2) mv).heap.size) := by
    intro W e1 e2 e3 e4
    obtain ⟨cur2, q1, q2, q3, q4⟩ := setCells_heap B mv ((i + 1) * 2) W (cur := ROW2) (e := 75) (fr := (0, 0)) (by rw [e1]; exact d1)
    have o3 := oth_setCells B mv ((i + 1) * 2) W
    refine ⟨B, G, cur2, rfl, q1, by rw [q2, d2, hRs], hGn, hGm, fun q hq => ?_, .inr (by omega), fun b hb _ => ?_, o3.os.trans (e2.trans o1b.1), o3.tape.trans (e3.trans o1b.2.1), o3.output.trans (e4.trans o1b.2.2.1), Nat.le_trans o1b.2.2.2 (Nat.le_trans o2.size (by rw [← e1]; exact o3.size))⟩
    · have htn : (olds.take (i * 2) ++ news).length = i * 2 + 2 := by rw [List.length_append, htk, hnl]
      by_cases h1 : q < i * 2
      · rw [List.getElem?_append_left (by omega), List.getElem?_append_left (by omega), List.getElem?_take, if_pos h1, q3 q (by omega), d3 q (by omega), hR0 q h1]
      · by_cases h2 : q < i * 2 + 2
        · obtain ⟨t, rfl⟩ : ∃ t, q = i * 2 + t := ⟨q - i * 2, by omega⟩
          have htl : t < news.length := by omega
          rw [List.getElem?_append_left (by omega), List.getElem?_append_right (by omega), htk, Nat.add_sub_cancel_left, q3 _ (by omega), d4 t _ (List.getElem?_eq_getElem htl) (by omega), List.getElem?_eq_getElem htl]
        · obtain ⟨t, rfl⟩ : ∃ t, q = i * 2 + 2 + t := ⟨q - (i * 2 + 2), by omega⟩
          have htl : t < mv.length := by omega
          have e5 := q4 t _ (List.getElem?_eq_getElem htl) (by omega)
          rw [show (i + 1) * 2 + t = i * 2 + 2 + t by omega] at e5
          rw [List.getElem?_append_right (by omega), htn, Nat.add_sub_cancel_left, e5, ← hmv, List.getElem?_eq_getElem htl]
    · have hb1 : b < W1.heap.size := by have := o1b.2.2.2; omega
      rw [o3.block b (by rw [e1]; exact Nat.lt_of_lt_of_le hb1 o2.size) (by omega), e1, o2.block b hb1 (by omega), o1 b (by omega)]
  have hw1 : IntKind.i64.wrap ((i : Int) + 1) = (i : Int) + 1 := by rw [IntKind.wrap_i64]; omega
  have hw2 : IntKind.i64.wrap ((n : Int) + 1) = (n : Int) + 1 := by rw [IntKind.wrap_i64]; omega
  have hw3 : IntKind.i64.wrap ((n : Int) + 1 - (i : Int)) = (n : Int) + 1 - (i : Int) := by rw [IntKind.wrap_i64]; omega
  have hb1 : (0 : Int) ≤ (i : Int) + 1 := by omega
  have hb0 : (0 : Int) ≤ (n : Int) + 1 := by omega
  have hin : i ≤ n := by omega
  have htn : ((i : Int) + 1).toNat = i + 1 := by omega
  have htn2 : ((n : Int) + 1).toNat = n + 1 := by omega
  have hb2 : ¬ (G = i + 1) := by omega
  have hb5 : ¬ (G = i) := by omega
  have hb3 : (i : Int) ≤ (n : Int) + 1 := by omega
  have hb4 : ¬ (c = i) := by omega
  refine Calls.mono (R := fun ed w' => ed = .returned (.slice (some ⟨B, 0, none⟩) (n + 1) G) ∧ ∃ W : World, w' = W.setCells B ((i + 1) * 2) mv ∧ W.heap = W2.heap ∧ W.os = W1.os ∧ W.tape = W1.tape ∧ W.output = W1.output) ?_ (fun ed w' ⟨h1, W, h2, h3, h4, h5, h6⟩ => by subst h1 h2; exact fin.out W h3 h4 h5 h6)
  have hcpB' : ∀ (W : World), W.heap = W1.heap → ∀ ty dc sc, (Builtin.copy_ #[33, 33] ty #[.slice (some ⟨B, (i + 1) * 2, none⟩) (n - i) dc, .slice (some ⟨g, i * 2, none⟩) (n - i) sc]).run Tryz.prog (W.setCells B (i * 2) news).drew = .ok (goInt (Nat.min (n - i) (n - i))) (((W.setCells B (i * 2) news).drew).setCells B ((i + 1) * 2) mv) := fun W hW ty dc sc => hcpB _ (by rw [hW2]; exact setCells_heap_eq hW B (i * 2) news) ty dc sc
  have hfin : ∀ W : World, W.heap = W1.heap → W.os = W1.os → W.tape = W1.tape → W.output = W1.output → ((W.setCells B (i * 2) news).drew).heap = W2.heap ∧ ((W.setCells B (i * 2) news).drew).os = W1.os ∧ ((W.setCells B (i * 2) news).drew).tape = W1.tape ∧ ((W.setCells B (i * 2) news).drew).output = W1.output := fun W e1 e2 e3 e4 => by
    have o := oth_setCells B news (i * 2) W
    exact ⟨by rw [hW2]; exact setCells_heap_eq e1 B (i * 2) news, o.os.trans e2, o.tape.trans e3, o.output.trans e4⟩
  clear fin hW1 hW2 hB r1 d1 d2 d3 d4 o1 o1b o2 hg hh hh1 hg1 hg2 hold hold0 hnew hml hmv hR0 hRs hROW hG hcpB hkk hik htk
  go_enter Tryz.func97, Tryz.ntmps97
  go_wp2_with (first
    | (at_builtin; refine Lib.wpList_append_run _ rfl _ _ _ _ rfl _ _ rfl rfl _ _ (hrz _) ?_)
    | (at_builtin; refine wpList_copy_runI _ rfl _ _ 33 33 rfl _ _ rfl rfl (hcpA _ rfl _ _) ?_))
  go_region_law_o (refine step_copy_runI rfl _ _ 33 33 rfl (.slice (some ⟨B, (i + 1) * 2, none⟩) (n - i) (G - (i + 1))) (.slice (some ⟨g, i * 2, none⟩) (n - i) (c - i)) (by simp [Act.eval, Act.put]) (by simp [Act.eval, Act.put]) (hcpB' _ rfl 3 (G - (i + 1)) (c - i)) ?_)
  go_wp2
  go_ret
  exact ⟨rfl, _, rfl, hfin _ rfl rfl rfl rfl⟩
theorem ins_item : InsCall Tryz.prog 97 75 2 := by
  intro w A n c i h vc olds news hi hnc hcm hn hol hnl h1o h1n hA0 hA ⟨hcu, hh, hnew⟩
  by_cases hin : i = n
  · subst hin
    by_cases hroom : i + 1 ≤ c
    · cases A with
      | none => have := hA0 rfl; omega
      | some g =>
        obtain ⟨hgh, cur, hg, hcur, hold⟩ := hA g rfl
        exact ins_end_room w g i c h vc olds news hroom hcm hol hnl h1n cur hg hcur hold hcu hh hnew
    · exact ins_end_grow w A i c h vc olds news hn hnc (by omega) hol hnl h1n hA0 (fun g hg => by obtain ⟨_, cur, h1, _, h2⟩ := hA g hg; exact ⟨cur, h1, h2⟩) hcu hh hnew
  · have hlt : i < n := by omega
    cases A with
    | none => have := hA0 rfl; omega
    | some g =>
      obtain ⟨hgh, cur, hg, hcur, hold⟩ := hA g rfl
      by_cases hroom : n + 1 ≤ c
      · exact ins_shift w g n c i h vc olds news hlt hn hroom hcm hol hnl h1o h1n hgh cur hg hcur hold hcu hh hnew
      · exact ins_grow w g n c i h vc olds news hlt hn hnc (by omega) hol hnl h1o h1n cur hg hold hcu hh hnew
end Go.Proofs.AI

namespace Go.Proofs.AI
open Go.RowKit Go.Proofs
set_option linter.unusedVariables false
set_option linter.unusedSimpArgs false
set_option maxRecDepth 100000
theorem ent_of {P : Program} {f : FuncId} {fn : Func} {c : Code} (hf : P.funcs[f]? = some fn) (hb : fn.body = some c) (hn : (fn.name == "runtime.NumGoroutine") = false) (args : Array Value) (w : World) : (callFunc f args).run P w = .ok (.enter f args) w := by
  have hn' : fn.name ≠ "runtime.NumGoroutine" := by simpa using hn
  simp [callFunc, program, Sem.run, hf, hn', hb]
theorem ent96 (args : Array Value) (w : World) : (callFunc 96 args).run Tryz.prog w = .ok (.enter 96 args) w := ent_of Tryz.func96 rfl rfl args w
theorem ent97 (args : Array Value) (w : World) : (callFunc 97 args).run Tryz.prog w = .ok (.enter 97 args) w := ent_of Tryz.func97 rfl rfl args w
theorem typ_del {C α : Type} (d : α) (g : α → List C) (xs : List α) (i : Nat) (hi : i < xs.length) : delR (typ d g xs) i (i + 1) = typ d g (xs.eraseIdx i) := by
  simp only [delR, typ, List.length_eraseIdx, if_pos hi]
  congr 1
  · omega
  · funext k
    simp only [List.getD_eq_getElem?_getD, List.getElem?_eraseIdx]
    split
    · rfl
    · rw [show k + (i + 1 - i) = k + 1 by omega]
theorem typ_ins {C α : Type} (d : α) (g : α → List C) (xs : List α) (i : Nat) (x : α) (hi : i ≤ xs.length) : insR (typ d g xs) i (g x) = typ d g (xs.insertIdx i x) := by
  simp only [insR, typ, List.length_insertIdx, if_pos hi]
  congr 1
  funext k
  simp only [List.getD_eq_getElem?_getD, List.getElem?_insertIdx]
  split
  · rfl
  · split
    · rename_i h1 h2; subst h2; simp [hi]
    · rfl
theorem del_ok (s : List Item) (i : Nat) (hi : i < s.length) : FunOK Tryz.prog 96 3 [] [(0, k1 (oItems s)), (1, kI i), (2, kI ((i : Int) + 1))] (· = [(3, k1 (oItems (s.eraseIdx i)))]) := by
  have h := del_fun del_item (by kernel_rfl) ent96 (typ dItem eItemO s) i (i + 1) (by omega) (by show i + 1 ≤ s.length; omega)
  rw [typ_del _ _ _ _ hi] at h
  exact h
def del_c : Con Tryz.prog := ⟨96, 3, [.give, .lend, .lend], [], List Item × Nat, some fun b => b.2 < b.1.length, fun b => [(0, k1 (oItems b.1)), (1, kI b.2), (2, kI ((b.2 : Int) + 1))], fun b => [(3, k1 (oItems (b.1.eraseIdx b.2)))], [], fun b h => del_ok b.1 b.2 h⟩
theorem ins_ok (s : List Item) (i : Nat) (x : Item) (hi : i ≤ s.length ∧ s.length ≤ 1000) : FunOK Tryz.prog 97 3 [] [(0, k1 (oItems s)), (1, kI i), (2, k1 (.ow tItem (raw [eItemO x])))] (· = [(3, k1 (oItems (s.insertIdx i x)))]) := by
  have h := ins_fun ins_item (by kernel_rfl) (by decide) ent97 (typ dItem eItemO s) i (eItemO x) hi.1 hi.2
  rw [typ_ins _ _ _ _ _ hi.1] at h
  exact h
def ins_c : Con Tryz.prog := ⟨97, 3, [.give, .lend, .give], [], List Item × Nat × Item, some fun b => b.2.1 ≤ b.1.length ∧ b.1.length ≤ 1000, fun b => [(0, k1 (oItems b.1)), (1, kI b.2.1), (2, k1 (.ow tItem (raw [eItemO b.2.2])))], fun b => [(3, k1 (oItems (b.1.insertIdx b.2.1 b.2.2)))], [], fun b h => ins_ok b.1 b.2.1 b.2.2 h⟩
end Go.Proofs.AI
