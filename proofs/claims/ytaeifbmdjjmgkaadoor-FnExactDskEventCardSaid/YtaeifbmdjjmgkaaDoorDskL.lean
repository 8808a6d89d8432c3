/- How the reference reads a line's words and numbers. Conditions: none. -/
import Derived.Test.YtaeifbmdjjmgkaaDoorDskP
import Derived.Test.YtaeifbmdjjmgkaaDoorDskA
namespace Go.Proofs.YtaeifbmdjjmgkaaDoor
open Go.RowKit Go.Proofs.YtaeifbmdjjmgkaaDoorW.PrintWords
set_option linter.unusedVariables false
set_option linter.unusedSimpArgs false
set_option maxRecDepth 100000

def wordsFrom (cur : ByteArray) (l : List UInt8) : List ByteArray := match splitL l with
  | h :: t => (cur ++ ⟨h.toArray⟩) :: t.map fun x => ⟨x.toArray⟩
  | [] => [cur]
theorem wordsFrom_all (s : ByteArray) : wordsFrom ⟨#[]⟩ s.data.toList = words s := by
  unfold wordsFrom words
  obtain ⟨h, t, e⟩ := splitL_ne s.data.toList
  rw [e]
  simp only [List.map_cons]
  rw [show (⟨#[]⟩ : ByteArray) ++ ⟨h.toArray⟩ = ⟨h.toArray⟩ from ba_eq (by simp)]
theorem wordsFrom_nil (cur : ByteArray) : wordsFrom cur [] = [cur] := by
  show [cur ++ ⟨#[]⟩] = [cur]
  rw [show cur ++ (⟨#[]⟩ : ByteArray) = cur from ba_eq (by simp)]
theorem wordsFrom_sp (cur : ByteArray) (r : List UInt8) : wordsFrom cur (32 :: r) = cur :: wordsFrom ⟨#[]⟩ r := by
  unfold wordsFrom
  rw [splitL_sp]
  obtain ⟨h, t, e⟩ := splitL_ne r
  rw [e]
  simp only [List.map_cons]
  rw [show (⟨#[]⟩ : ByteArray) ++ ⟨h.toArray⟩ = ⟨h.toArray⟩ from ba_eq (by simp), show cur ++ (⟨([] : List UInt8).toArray⟩ : ByteArray) = cur from ba_eq (by simp)]
theorem wordsFrom_no (cur : ByteArray) (c : UInt8) (r : List UInt8) (hc : c ≠ 32) : wordsFrom cur (c :: r) = wordsFrom (cur ++ ⟨#[c]⟩) r := by
  unfold wordsFrom
  obtain ⟨h, t, e⟩ := splitL_ne r
  rw [splitL_no hc e, e]
  simp only
  rw [show cur ++ (⟨(c :: h).toArray⟩ : ByteArray) = cur ++ ⟨#[c]⟩ ++ ⟨h.toArray⟩ from ba_eq (by simp)]
theorem drop_at (s : ByteArray) (k : Nat) (h : k < s.size) : s.data.toList.drop k = s[k] :: s.data.toList.drop (k + 1) := by
  have hl : k < s.data.toList.length := by simpa using h
  rw [List.drop_eq_getElem_cons hl]
  rfl
theorem extract_one (s : ByteArray) (k : Nat) (h : k < s.size) : s.extract k (k + 1) = ⟨#[s[k]]⟩ := by
  apply ba_eq
  simp
  have hl : k < s.data.toList.length := by simpa using h
  rw [List.take_one, List.head?_drop, List.getElem?_eq_getElem hl]
  rfl

set_option maxHeartbeats 4000000 in
theorem l9Words_any (s : ByteArray) (hs : s.size ≤ 4294967280) (w : World) :
    Calls Tryd.prog 22 #[.string s] w fun e w' => ∃ v, e = .returned v ∧ Kd.string.R 9 w' w.heap.size (fun _ => True) v (words s) ∧ Below w.heap.size w w' := by
  have HB := Lib.hid (Below.refl w.heap.size w)
  go_enter Tryd.func22, Tryd.ntmps22
  go_wp2_with (first | ((with_reducible refine gate_dst (N := 6) rfl ?_); refine Kd.R_lit Kd.string _ 9 ?hg (N := 6) ?hd (xs := ([] : List ByteArray)) (inner := []) (ok := fun _ => True) (okp := fun _ => True) ?hr ?hp (fun _ hk => hk) trivial (Below.refl _ _) (Nat.le_refl _) (by simp) ?_; (case hd => rfl); (case hg => rfl); (case hr => first | (go_simp; done) | (go_simp; rfl)); (case hp => exact (Reps.none _ _)); intro v6 w6 ho hb hg_ hnew_; clear hg_ hnew_; have HO6 := Lib.hid (Kd.R_lower ho (below_size HB.out)); have HB6 := Lib.hid (below_step HB.out hb); clear ho hb HB; have HB := HB6; clear HB6))
  go_loopw [3, 4, 5] (fun v3 s4 s5 wr => ∃ (k : Nat) (xs : List ByteArray) (cur : ByteArray), k ≤ s.size ∧ s5 = .int .i64 k ∧ s4 = .string cur ∧ xs.length ≤ k ∧ cur.size ≤ k ∧ Hid (Kd.string.R 9 wr w.heap.size (fun _ => True) v3 xs) ∧ Hid (Below w.heap.size w wr) ∧ Hid (words s = xs ++ wordsFrom cur (s.data.toList.drop k))) (fun _ _ s5 _ => s.size - (intOf s5).toNat)
  case atStart => exact ⟨0, [], ⟨#[]⟩, by omega, rfl, rfl, Nat.le_refl _, Nat.le_refl _, HO6, HB, Lib.hid (by rw [List.drop_zero, wordsFrom_all]; rfl)⟩
  case round =>
    clear HO6 HB
    obtain ⟨k, xs, cur, hk, rfl, rfl, hxs, hcur, HO, HB, HW⟩ := hrel
    by_cases hlt : k < s.size
    · by_cases hc : s[k] = 32
      · have hb1 : (((s[k].toNat : Nat) : Int) == 32) = true := by rw [hc]; rfl
        have HC := Lib.hid hc
        have HLt := Lib.hid hlt
        clear hc
        go_wp2_with (first | (at_builtin; go_loud (refine Kd.R_append Kd.string (w0 := w) w.heap.size rfl (.tmp 17) (.tmp 19) 42 9 (.string ⟨#[]⟩) 16 rfl Tryd.underlying42 infoStr rfl (by decide) (by omega) u3 xs cur [.string cur] (fun _ => True) (fun _ => False) rfl rfl ?aP (fun _ hk => hk.elim) ?aF ?aO ?aB ?aS ?aL ?_); (case aP => exact rfl); (case aB => exact HB.out); (case aF => exact (fun _ _ => trivial)); (case aO => exact HO.out); (case aS => exact (below_size HB.out)); (case aL => omega); intro va_ wa_ ho hb hg hat; clear hg hat; have HOa := Lib.hid ho; have HBa := Lib.hid hb; clear ho hb HB HO; have HB := HBa; clear HBa))
        go_roundw
        case rel => exact ⟨k + 1, xs ++ [cur], ⟨#[]⟩, HLt.out, by go_num, rfl, by rw [List.length_append, List.length_singleton]; omega, Nat.zero_le _, HOa, HB, Lib.hid (by rw [HW.out, drop_at s k HLt.out, HC.out, wordsFrom_sp, List.append_assoc]; rfl)⟩
        case measure => have := HLt.out; simp [intOf]; omega
      · have hb1 : (((s[k].toNat : Nat) : Int) == 32) = false := by
          rw [beq_eq_false_iff_ne]
          intro h
          exact hc (UInt8.toNat_inj.1 (by have : (32 : UInt8).toNat = 32 := rfl; omega))
        have HC := Lib.hid hc
        have HLt := Lib.hid hlt
        have hex := extract_one s k hlt
        have g1 : (0 : Int) ≤ (k : Int) := by omega
        have g2 : (k : Int) ≤ (k : Int) + 1 := by omega
        have g3 : (k : Int) + 1 ≤ (s.size : Int) := by omega
        have g4 : ((k : Int) + 1).toNat = k + 1 := by omega
        have hsz : (⟨#[s[k]]⟩ : ByteArray).size = 1 := rfl
        clear hc
        go_wp2
        go_roundw
        case rel => exact ⟨k + 1, xs, cur ++ ⟨#[s[k]'HLt.out]⟩, HLt.out, by go_num, rfl, by omega, by rw [ByteArray.size_append]; have : (⟨#[s[k]'HLt.out]⟩ : ByteArray).size = 1 := rfl; omega, HO, HB, Lib.hid (by rw [HW.out, drop_at s k HLt.out, wordsFrom_no _ _ _ HC.out])⟩
        case measure => have := HLt.out; simp [intOf]; omega
    · have hkl : k = s.size := by omega
      have HK := Lib.hid hkl
      clear hkl
      go_wp2_with (first | (at_builtin; go_loud (refine Kd.R_append Kd.string (w0 := w) w.heap.size rfl (.tmp 28) (.tmp 30) 42 9 (.string ⟨#[]⟩) 16 rfl Tryd.underlying42 infoStr rfl (by decide) (by omega) u3 xs cur [.string cur] (fun _ => True) (fun _ => False) rfl rfl ?aP (fun _ hk => hk.elim) ?aF ?aO ?aB ?aS ?aL ?_); (case aP => exact rfl); (case aB => exact HB.out); (case aF => exact (fun _ _ => trivial)); (case aO => exact HO.out); (case aS => exact (below_size HB.out)); (case aL => omega); intro vb_ wb_ ho hb hg hat; clear hg hat; have HOb := Lib.hid ho; have HBb := Lib.hid hb; clear ho hb HB HO; have HB := HBb; clear HBb))
      go_ret
      exact ⟨_, rfl, by
        have h1 := HW.out
        rw [HK.out, List.drop_eq_nil_of_le (by simp), wordsFrom_nil] at h1
        rw [h1]
        exact HOb.out, HB.out⟩
theorem ind_data (s : ByteArray) (k : Nat) (h : k < s.size) : s.data.toList[k]'(by simpa using h) = s[k] := rfl
theorem num_bad_size (s : ByteArray) (h : s.size = 0 ∨ 3 < s.size) : NumOf s (-1) := by
  refine .inr ⟨rfl, fun m hm e => ?_⟩
  have h1 := itoaB_digs m (by omega)
  rw [← e] at h1
  have h2 : s.data.toList.length = s.size := by simp
  omega
theorem num_bad_dig (s : ByteArray) (k : Nat) (hk : k < s.size) (h : ¬ isDig s[k]) : NumOf s (-1) := by
  refine .inr ⟨rfl, fun m hm e => ?_⟩
  have h1 := (itoaB_digs m (by omega)).1
  rw [← e] at h1
  exact h (h1 s[k] (by rw [← ind_data s k hk]; exact List.getElem_mem _))
theorem num_bad_text (s : ByteArray) (n : Nat) (hn : foldD s.data.toList = n) (h : itoaB n ≠ s) : NumOf s (-1) := by
  refine .inr ⟨rfl, fun m hm e => ?_⟩
  have h1 := (itoaB_digs m (by omega)).2.1
  rw [← e, hn] at h1
  rw [h1] at h
  exact h e.symm
theorem foldD_step (s : ByteArray) (k : Nat) (hk : k < s.size) : foldD (s.data.toList.take (k + 1)) = foldD (s.data.toList.take k) * 10 + dval s[k] := by
  have hl : k < s.data.toList.length := by simpa using hk
  rw [List.take_succ_eq_append_getElem hl]
  unfold foldD
  rw [List.foldl_append]
  rfl

set_option maxHeartbeats 4000000 in
theorem l9Num_any (s : ByteArray) (hs : s.size ≤ 4294967280) (w : World) :
    Calls Tryd.prog 33 #[.string s] w fun e w' => e = .returned (.int .i64 (numS s)) ∧ Below w.heap.size w w' := by
  by_cases h0 : s.size = 0 ∨ 3 < s.size
  · rw [← numS_eq (num_bad_size s h0)]
    rcases h0 with h0 | h0
    · go_enter Tryd.func33, Tryd.ntmps33
      go_wp2
      go_ret
      exact ⟨rfl, Below.refl _ _⟩
    · go_enter Tryd.func33, Tryd.ntmps33
      go_wp2
      all_goals first | omega | (go_ret; exact ⟨rfl, Below.refl _ _⟩)
  · have hs1 : 1 ≤ s.size := by omega
    have hs3 : s.size ≤ 3 := by omega
    clear h0
    have b0 : ((s.size : Int) == 0) = false := by rw [beq_eq_false_iff_ne]; omega
    have b3 : decide ((3 : Int) < (s.size : Int)) = false := decide_eq_false (by omega)
    go_enter Tryd.func33, Tryd.ntmps33
    go_wp2
    go_loop [3, 4] (fun s3 s4 => ∃ k n : Nat, k ≤ s.size ∧ s4 = .int .i64 k ∧ s3 = .int .i64 n ∧ n < 1000 ∧ Hid (foldD (s.data.toList.take k) = n ∧ n < 10 ^ k)) (fun _ s4 => s.size - (intOf s4).toNat)
    case atStart => exact ⟨0, 0, by omega, rfl, rfl, by omega, Lib.hid ⟨rfl, by decide⟩⟩
    case round =>
      obtain ⟨k, n, hk, rfl, rfl, hn, HN⟩ := hrel
      by_cases hlt : k < s.size
      · have HLt := Lib.hid hlt
        by_cases hd : isDig s[k]
        · have d1 := hd.1
          have d2 := hd.2
          have HD := Lib.hid hd
          clear hd
          have hn2 : n * 10 + (s[k].toNat - 48) < 1000 := by
            have h1 := HN.out.2
            have h2 : k = 0 ∨ k = 1 ∨ k = 2 := by omega
            rcases h2 with rfl | rfl | rfl <;> omega
          go_wp2
          go_round
          case rel =>
            refine ⟨k + 1, n * 10 + dval (s[k]'HLt.out), HLt.out, by go_num, ?_, hn2, Lib.hid ⟨by rw [foldD_step s k HLt.out, HN.out.1], ?_⟩⟩
            · unfold dval
              congr 1
              omega
            · have h1 := HN.out.2
              have h2 := HD.out
              unfold isDig at h2
              unfold dval
              rw [Nat.pow_succ]
              omega
          case measure => have := HLt.out; simp [intOf]; omega
        · have HD := Lib.hid hd
          have hx : s[k].toNat < 48 ∨ 57 < s[k].toNat := by unfold isDig at hd; omega
          clear hd
          rcases hx with hx | hx
          · go_wp2
            go_ret
            exact ⟨ret_int (numS_eq (num_bad_dig s k HLt.out HD.out)), Below.refl _ _⟩
          · go_wp2
            all_goals first | omega | (go_ret; exact ⟨ret_int (numS_eq (num_bad_dig s k HLt.out HD.out)), Below.refl _ _⟩)
      · have hkl : k = s.size := by omega
        have HN2 : Hid (foldD s.data.toList = n) := Lib.hid (by have := HN.out.1; rwa [hkl, List.take_of_length_le (by simp)] at this)
        have HC := Lib.hid (fun W => l3Plain_any n (by omega) W)
        clear hkl
        by_cases he : itoaB n = s
        · have HE := Lib.hid he
          have hr := numS_eq (s := s) (n := n) (.inl ⟨by omega, by omega, he.symm⟩)
          have HR := Lib.hid hr
          clear he hr
          go_wp2_with (go_at_call 13; refine (HC.out _).mono ?_; rintro e w' ⟨rfl, hb⟩; rw [HE.out])
          go_ret
          exact ⟨ret_int HR.out, by assumption⟩
        · have hf : ((itoaB n).toList == s.toList) = false := by
            rw [beq_eq_false_iff_ne]
            exact fun h => he (ba_toList h)
          have hr := numS_eq (num_bad_text s n HN2.out he)
          have HR := Lib.hid hr
          clear he hr
          go_wp2_with (go_at_call 13; refine (HC.out _).mono ?_; rintro e w' ⟨rfl, hb⟩)
          go_ret
          exact ⟨ret_int HR.out, by assumption⟩

noncomputable def numsOk (ws : List ByteArray) : Bool := ws.tail.all fun x => decide (0 ≤ numS x)
noncomputable def numsOf (ws : List ByteArray) : List Int := if numsOk ws = true then ws.tail.map numS else []
set_option maxHeartbeats 4000000 in
theorem l9Nums_any (ws : List ByteArray) (A : Option Addr) (c : Nat) (w : World) (hA : Kd.string.C w A ws.length ws) (hw : ∀ k, (ix ⟨#[]⟩ ws k).size ≤ 4294967280) (hlen : ws.length ≤ 4294967296) (h1 : 1 ≤ ws.length) :
    Calls Tryd.prog 23 #[.slice A ws.length c] w fun e w' => ∃ v, e = .returned (.tuple #[v, .bool (numsOk ws)]) ∧ kInt.R 3 w' w.heap.size (fun _ => True) v (numsOf ws) ∧ Below w.heap.size w w' := by
  have HB := Lib.hid (Below.refl w.heap.size w)
  have HA := Lib.hid hA
  clear hA
  go_enter Tryd.func23, Tryd.ntmps23
  go_wp2_with (first | ((with_reducible refine gate_dst (N := 7) rfl ?_); refine Kd.R_lit kInt _ 3 ?hg (N := 7) ?hd (xs := ([] : List Int)) (inner := []) (ok := fun _ => True) (okp := fun _ => True) ?hr ?hp (fun _ hk => hk) trivial (Below.refl _ _) (Nat.le_refl _) (by simp) ?_; (case hd => rfl); (case hg => rfl); (case hr => first | (go_simp; done) | (go_simp; rfl)); (case hp => exact (Reps.none _ _)); intro v7 w7 ho hb hg_ hnew_; clear hg_ hnew_; have HO7 := Lib.hid (Kd.R_lower ho (below_size HB.out)); have HB7 := Lib.hid (below_step HB.out hb); clear ho hb HB; have HB := HB7; clear HB7))
  go_loopw [4, 5] (fun v4 s5 wr => ∃ (k : Nat), 1 ≤ k ∧ k ≤ ws.length ∧ s5 = .int .i64 k ∧ Hid (kInt.R 3 wr w.heap.size (fun _ => True) v4 ((ws.tail.take (k - 1)).map numS)) ∧ Hid (Below w.heap.size w wr) ∧ Hid (∀ x ∈ ws.tail.take (k - 1), 0 ≤ numS x)) (fun _ s5 _ => ws.length - (intOf s5).toNat)
  case atStart => exact ⟨1, by omega, h1, rfl, HO7, HB, Lib.hid (fun x hx => by simp at hx)⟩
  case round =>
    clear HO7 HB
    obtain ⟨k, hk1, hk, rfl, HO, HB, HN⟩ := hrel
    by_cases hlt : k < ws.length
    · obtain ⟨ad, hA1, q1⟩ := at_str (Kd.C_below HA.out HB.out) k hlt
      subst hA1
      have HLt := Lib.hid hlt
      have HC := Lib.hid (fun W => l9Num_any (ix ⟨#[]⟩ ws k) (hw k) W)
      have htk : ws.tail.take k = ws.tail.take (k - 1) ++ [ix ⟨#[]⟩ ws k] := by
        obtain ⟨j, rfl⟩ : ∃ j, k = j + 1 := ⟨k - 1, by omega⟩
        rw [take_snoc_ix ⟨#[]⟩ ws.tail j (by rw [List.length_tail]; omega), Nat.add_sub_cancel]
        congr 2
        rw [ix_lt _ ws.tail j (by rw [List.length_tail]; omega), ix_lt _ ws (j + 1) hlt, List.getElem_tail]
      have HT := Lib.hid htk
      have hlx : ((ws.tail.take (k - 1)).map numS).length ≤ 4294967296 := by rw [List.length_map, List.length_take, List.length_tail]; omega
      clear htk
      by_cases hn : numS (ix ⟨#[]⟩ ws k) < 0
      · have hb0 : decide (numS (ix ⟨#[]⟩ ws k) < 0) = true := decide_eq_true hn
        have hall : numsOk ws = false := by
          unfold numsOk
          rw [List.all_eq_false]
          refine ⟨ix ⟨#[]⟩ ws k, ?_, by simp; exact hn⟩
          have : ix ⟨#[]⟩ ws k ∈ ws.tail.take k := by rw [HT.out]; simp
          exact List.mem_of_mem_take this
        have HALL := Lib.hid hall
        have HOF : Hid (numsOf ws = []) := Lib.hid (by unfold numsOf; rw [hall, if_neg (by decide)])
        have HNn := Lib.hid hn
        clear hall hn
        go_wp2_with (first | (go_at_call 33; refine (HC.out _).mono ?_; rintro e w8 ⟨rfl, hb⟩; have HB8 := Lib.hid (below_step HB.out hb); clear hb HB HO; have HB := HB8; clear HB8) | ((with_reducible refine gate_dst (N := 21) rfl ?_); refine Kd.R_lit kInt _ 3 ?hg (N := 21) ?hd (xs := ([] : List Int)) (inner := []) (ok := fun _ => True) (okp := fun _ => True) ?hr ?hp (fun _ hk => hk) trivial (Below.refl _ _) (Nat.le_refl _) (by simp) ?_; (case hd => rfl); (case hg => rfl); (case hr => first | (go_simp; done) | (go_simp; rfl)); (case hp => exact (Reps.none _ _)); intro v21 w21 ho hb hg_ hnew_; clear hg_ hnew_; have HO21 := Lib.hid (Kd.R_lower ho (below_size HB.out)); have HB21 := Lib.hid (below_step HB.out hb); clear ho hb HB; have HB := HB21; clear HB21))
        all_goals go_ret2
        all_goals exact ⟨_, by rw [HALL.out]; rfl, by rw [HOF.out]; exact HO21.out, HB.out⟩
      · have hb0 : decide (numS (ix ⟨#[]⟩ ws k) < 0) = false := decide_eq_false hn
        have HNn := Lib.hid hn
        clear hn
        go_wp2_with (first | (go_at_call 33; refine (HC.out _).mono ?_; rintro e w8 ⟨rfl, hb⟩; have HB8 := Lib.hid (below_step HB.out hb); have HO8 := Lib.hid (Kd.R_below HO.out hb); clear hb HB HO; have HB := HB8; have HO := HO8; clear HB8 HO8) | (at_builtin; go_loud (refine Kd.R_append kInt (w0 := w) w.heap.size rfl (.tmp 22) (.tmp 24) 37 3 (.int .i64 0) 8 rfl Tryd.underlying37 infoInt rfl (by decide) (by omega) u4 ((ws.tail.take (k - 1)).map numS) (numS (ix ⟨#[]⟩ ws k)) [.int .i64 (numS (ix ⟨#[]⟩ ws k))] (fun _ => True) (fun _ => False) rfl rfl ?aP (fun _ hk => hk.elim) ?aF ?aO ?aB ?aS ?aL ?_); (case aP => exact rfl); (case aB => exact HB.out); (case aF => exact (fun _ _ => trivial)); (case aO => exact HO.out); (case aS => exact (below_size HB.out)); (case aL => omega); intro va_ wa_ ho hb hg hat; clear hg hat; have HOa := Lib.hid ho; have HBa := Lib.hid hb; clear ho hb HB HO; have HB := HBa; clear HBa))
        go_roundw
        case rel => exact ⟨k + 1, by omega, HLt.out, by go_num, Lib.hid (by rw [Nat.add_sub_cancel, HT.out, List.map_append]; exact HOa.out), HB, Lib.hid (fun x hx => by
          rw [Nat.add_sub_cancel, HT.out] at hx
          rcases List.mem_append.1 hx with hx | hx
          · exact HN.out x hx
          · rw [List.mem_singleton.1 hx]; have := HNn.out; omega)⟩
        case measure => have := HLt.out; simp [intOf]; omega
    · have hkl : k = ws.length := by omega
      have htl : ws.tail.take (k - 1) = ws.tail := List.take_of_length_le (by rw [List.length_tail, hkl]; exact Nat.le_refl _)
      have hall : numsOk ws = true := by
        unfold numsOk
        rw [List.all_eq_true]
        intro x hx
        have := HN.out x (by rw [htl]; exact hx)
        simpa using this
      have HALL := Lib.hid hall
      have HOF : Hid (numsOf ws = ws.tail.map numS) := Lib.hid (by unfold numsOf; rw [hall, if_pos rfl])
      have HT := Lib.hid htl
      clear htl hall hkl
      go_wp2
      go_ret2
      exact ⟨_, by rw [HALL.out]; rfl, by have h1 := HO.out; rw [HT.out] at h1; rw [HOF.out]; exact h1, HB.out⟩
end Go.Proofs.YtaeifbmdjjmgkaaDoor
