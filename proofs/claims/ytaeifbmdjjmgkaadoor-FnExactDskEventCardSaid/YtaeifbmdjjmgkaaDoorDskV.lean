/- What the reference's DskText writes. Conditions: none. -/
import Derived.Test.YtaeifbmdjjmgkaaDoorDskS
namespace Go.Proofs.YtaeifbmdjjmgkaaDoor
open Go.RowKit Go.Proofs.YtaeifbmdjjmgkaaDoorW.PrintWords
set_option linter.unusedVariables false
set_option linter.unusedSimpArgs false
set_option maxRecDepth 100000

theorem fld_0 (e : Ev) : e.fld 0 = e.kind := rfl
theorem fld_1 (e : Ev) : e.fld 1 = e.op.kind := rfl
theorem fld_2 (e : Ev) : e.fld 2 = e.op.who := rfl
theorem fld_3 (e : Ev) : e.fld 3 = e.op.in_ := rfl
theorem fld_4 (e : Ev) : e.fld 4 = e.op.code := rfl
theorem fld_5 (e : Ev) : e.fld 5 = e.op.sec := rfl
theorem fld_6 (e : Ev) : e.fld 6 = e.op.fam := rfl
theorem fld_7 (e : Ev) : e.fld 7 = e.op.gen := rfl
theorem fld_8 (e : Ev) : e.fld 8 = e.at_ := rfl
theorem fld_9 (e : Ev) : e.fld 9 = e.place := rfl
theorem fld_10 (e : Ev) : e.fld 10 = e.keep := rfl
theorem opNums_size (o : Op) (h : OpOk o) : ∀ n ∈ opNums o, 0 ≤ n ∧ n ≤ 99 := by
  unfold OpOk InB at h
  unfold opNums
  intro n hn
  split at hn
  · simp only [List.mem_cons, List.not_mem_nil, or_false] at hn; omega
  split at hn
  · simp only [List.mem_cons, List.not_mem_nil, or_false] at hn; omega
  split at hn
  · simp only [List.mem_cons, List.not_mem_nil, or_false] at hn; omega
  split at hn <;> (simp only [List.mem_cons, List.not_mem_nil, or_false] at hn; omega)
theorem opNums_len (o : Op) : (opNums o).length ≤ 4 := by
  unfold opNums
  split
  · simp
  split
  · simp
  split
  · simp
  split <;> simp
theorem opWord_size (o : Op) : (opWord o).size ≤ 5 := by
  unfold opWord
  split
  · decide
  split
  · decide
  split
  · decide
  split <;> decide
def joinM (o : Op) (k : Nat) : ByteArray := joinN (opWord o) ((opNums o).take k)
theorem joinM_zero (o : Op) : joinM o 0 = opWord o := rfl
theorem joinM_succ (o : Op) (k : Nat) (hk : k < (opNums o).length) : joinM o (k + 1) = joinM o k ++ (sp ++ itoaB (ix 0 (opNums o) k)) := by
  unfold joinM
  rw [take_snoc_ix 0 _ k hk]
  exact joinN_snoc _ _ _
theorem joinM_size (o : Op) (h : OpOk o) (k : Nat) : (joinM o k).size ≤ 5 + 22 * k := by
  have h1 := joinN_size (opWord o) ((opNums o).take k) (fun n hn => by have := opNums_size o h n (List.mem_of_mem_take hn); omega)
  rw [List.length_take] at h1
  have := opWord_size o
  unfold joinM
  omega

set_option maxHeartbeats 8000000 in
theorem sDskText_do (e : Ev) (hk : e.kind = 1) (ho : opOkB e.op = true) (w : World) :
    Calls Tryd.prog 5 #[e.val] w fun e' w' => e' = .returned (.string (joinN (opWord e.op) (opNums e.op))) ∧ Below w.heap.size w w' := by
  have hop := fun W => opOk_any e.op W
  have hnp := fun W => l9Op_any e.op W
  rw [show e.op.val = .agg #[.int .i64 e.op.kind, .int .i64 e.op.who, .int .i64 e.op.in_, .int .i64 e.op.code, .int .i64 e.op.sec, .int .i64 e.op.fam, .int .i64 e.op.gen] from rfl] at hop hnp
  have HO := Lib.hid hop
  have HP := Lib.hid hnp
  clear hop hnp
  simp only [Ev.val]
  have hkb : (e.kind == 1) = true := by simp [hk]
  have HOK := Lib.hid (dec_iff.1 ho)
  have hl4 := opNums_len e.op
  clear hk
  go_enter Tryd.func5, Tryd.ntmps5
  go_wp2_with (first | ((with_reducible refine gate_dst (N := 1) rfl ?_); refine box_event ?hg (N := 1) ?hd (cs := #[.int .i64 e.kind, .int .i64 e.op.kind, .int .i64 e.op.who, .int .i64 e.op.in_, .int .i64 e.op.code, .int .i64 e.op.sec, .int .i64 e.op.fam, .int .i64 e.op.gen, .int .i64 e.at_, .int .i64 e.place, .int .i64 e.keep]) (t := 29) ?hr ?_; (case hd => rfl); (case hg => rfl); (case hr => first | (go_simp; done) | (go_simp; rfl)); intro B hg w3 hbox hb; have c0 := (blk_cell hbox 0).trans (rfl : _ = some (Value.int .i64 e.kind)); have c1 := (blk_cell hbox 1).trans (rfl : _ = some (Value.int .i64 e.op.kind)); have c2 := (blk_cell hbox 2).trans (rfl : _ = some (Value.int .i64 e.op.who)); have c3 := (blk_cell hbox 3).trans (rfl : _ = some (Value.int .i64 e.op.in_)); have c4 := (blk_cell hbox 4).trans (rfl : _ = some (Value.int .i64 e.op.code)); have c5 := (blk_cell hbox 5).trans (rfl : _ = some (Value.int .i64 e.op.sec)); have c6 := (blk_cell hbox 6).trans (rfl : _ = some (Value.int .i64 e.op.fam)); have c7 := (blk_cell hbox 7).trans (rfl : _ = some (Value.int .i64 e.op.gen)); have c8 := (blk_cell hbox 8).trans (rfl : _ = some (Value.int .i64 e.at_)); have c9 := (blk_cell hbox 9).trans (rfl : _ = some (Value.int .i64 e.place)); have c10 := (blk_cell hbox 10).trans (rfl : _ = some (Value.int .i64 e.keep)); have HX := Lib.hid hbox; have HB := Lib.hid hb; clear hbox hb hg) | (go_at_call 11; refine (HO.out _).mono ?_; rintro e' w4 ⟨rfl, hb⟩; have HX4 := Lib.hid (blk_below HX.out hb); have HB4 := Lib.hid (below_step HB.out hb); clear hb HX HB c0 c1 c2 c3 c4 c5 c6 c7 c8 c9 c10; have HX := HX4; have HB := HB4; clear HX4 HB4; have c0 := ev_cell HX.out 0 (by decide); have c1 := ev_cell HX.out 1 (by decide); have c2 := ev_cell HX.out 2 (by decide); have c3 := ev_cell HX.out 3 (by decide); have c4 := ev_cell HX.out 4 (by decide); have c5 := ev_cell HX.out 5 (by decide); have c6 := ev_cell HX.out 6 (by decide); have c7 := ev_cell HX.out 7 (by decide); have c8 := ev_cell HX.out 8 (by decide); have c9 := ev_cell HX.out 9 (by decide); have c10 := ev_cell HX.out 10 (by decide); simp only [fld_0, fld_1, fld_2, fld_3, fld_4, fld_5, fld_6, fld_7, fld_8, fld_9, fld_10] at c0 c1 c2 c3 c4 c5 c6 c7 c8 c9 c10) | (go_at_call 12; refine (HP.out _).mono ?_; rintro e' w5 ⟨v, rfl, hR, hb⟩; obtain ⟨A, c, rfl, hc, hC⟩ := Kd.R_reads hR; have HX5 := Lib.hid (blk_below HX.out hb); have HB5 := Lib.hid (below_step HB.out hb); have HR := Lib.hid hC; clear hR hC hb hc HX HB c0 c1 c2 c3 c4 c5 c6 c7 c8 c9 c10; have HX := HX5; have HB := HB5; clear HX5 HB5))
  go_loopw [3, 5] (fun s3 s5 wr => ∃ j : Nat, j ≤ (opNums e.op).length ∧ s5 = .int .i64 j ∧ s3 = .string (joinM e.op j) ∧ Hid (Below w5.heap.size w5 wr)) (fun _ s5 _ => (opNums e.op).length - (intOf s5).toNat)
  case atStart => exact ⟨0, Nat.zero_le _, rfl, by rw [joinM_zero], Lib.hid (Below.refl _ _)⟩
  case round =>
    obtain ⟨j, hj, rfl, rfl, HW⟩ := hrel
    by_cases hlt : j < (opNums e.op).length
    · obtain ⟨ad1, hA1, p1⟩ := at_int (Kd.C_below HR.out HW.out) j hlt
      subst hA1
      have hf := opNums_size e.op HOK.out _ (ix_mem 0 (opNums e.op) j hlt)
      obtain ⟨m, hm⟩ := Int.eq_ofNat_of_zero_le hf.1
      have hs1 := joinM_size e.op HOK.out j
      have hs2 := itoaB_size (ix 0 (opNums e.op) j) (by omega) (by omega)
      have hs3 : (joinM e.op j).size ≤ 200 := by omega
      have hcall := fun W => l3Plain_any m (by omega) W
      rw [← hm] at hcall
      have HF := Lib.hid hcall
      clear hs1 hf hm hcall
      have HLt := Lib.hid hlt
      have hj4 : j < 4 := by omega
      go_wp2_with (go_at_call 13; refine (HF.out _).mono ?_; rintro e' w7 ⟨rfl, hb⟩; have HB7 := Lib.hid hb; clear hb)
      go_roundw
      case rel => exact ⟨j + 1, HLt.out, by go_num, by rw [joinM_succ e.op j HLt.out, ← ByteArray.append_assoc]; rfl, Lib.hid (below_step HW.out HB7.out)⟩
      case measure => have := HLt.out; simp [intOf]; omega
    · have hjl : j = (opNums e.op).length := by omega
      go_wp2_with fail
      go_ret
      exact ⟨ret_str (by rw [hjl]; unfold joinM; rw [List.take_length]), below_step HB.out HW.out⟩
theorem sDskText_notdo (e : Ev) (hk : e.kind = 1) (ho : opOkB e.op = false) (w : World) :
    Calls Tryd.prog 5 #[e.val] w fun e' w' => e' = .returned (.string ⟨#[]⟩) ∧ Below w.heap.size w w' := by
  have hop := fun W => opOk_any e.op W
  have hnp := fun W => l9Op_any e.op W
  rw [show e.op.val = .agg #[.int .i64 e.op.kind, .int .i64 e.op.who, .int .i64 e.op.in_, .int .i64 e.op.code, .int .i64 e.op.sec, .int .i64 e.op.fam, .int .i64 e.op.gen] from rfl] at hop hnp
  have HO := Lib.hid hop
  have HP := Lib.hid hnp
  clear hop hnp
  simp only [Ev.val]
  have hkb : (e.kind == 1) = true := by simp [hk]
  clear hk
  go_enter Tryd.func5, Tryd.ntmps5
  go_wp2_with (first | ((with_reducible refine gate_dst (N := 1) rfl ?_); refine box_event ?hg (N := 1) ?hd (cs := #[.int .i64 e.kind, .int .i64 e.op.kind, .int .i64 e.op.who, .int .i64 e.op.in_, .int .i64 e.op.code, .int .i64 e.op.sec, .int .i64 e.op.fam, .int .i64 e.op.gen, .int .i64 e.at_, .int .i64 e.place, .int .i64 e.keep]) (t := 29) ?hr ?_; (case hd => rfl); (case hg => rfl); (case hr => first | (go_simp; done) | (go_simp; rfl)); intro B hg w3 hbox hb; have c0 := (blk_cell hbox 0).trans (rfl : _ = some (Value.int .i64 e.kind)); have c1 := (blk_cell hbox 1).trans (rfl : _ = some (Value.int .i64 e.op.kind)); have c2 := (blk_cell hbox 2).trans (rfl : _ = some (Value.int .i64 e.op.who)); have c3 := (blk_cell hbox 3).trans (rfl : _ = some (Value.int .i64 e.op.in_)); have c4 := (blk_cell hbox 4).trans (rfl : _ = some (Value.int .i64 e.op.code)); have c5 := (blk_cell hbox 5).trans (rfl : _ = some (Value.int .i64 e.op.sec)); have c6 := (blk_cell hbox 6).trans (rfl : _ = some (Value.int .i64 e.op.fam)); have c7 := (blk_cell hbox 7).trans (rfl : _ = some (Value.int .i64 e.op.gen)); have c8 := (blk_cell hbox 8).trans (rfl : _ = some (Value.int .i64 e.at_)); have c9 := (blk_cell hbox 9).trans (rfl : _ = some (Value.int .i64 e.place)); have c10 := (blk_cell hbox 10).trans (rfl : _ = some (Value.int .i64 e.keep)); have HX := Lib.hid hbox; have HB := Lib.hid hb; clear hbox hb hg) | (go_at_call 11; refine (HO.out _).mono ?_; rintro e' w4 ⟨rfl, hb⟩; have HX4 := Lib.hid (blk_below HX.out hb); have HB4 := Lib.hid (below_step HB.out hb); clear hb HX HB c0 c1 c2 c3 c4 c5 c6 c7 c8 c9 c10; have HX := HX4; have HB := HB4; clear HX4 HB4; have c0 := ev_cell HX.out 0 (by decide); have c1 := ev_cell HX.out 1 (by decide); have c2 := ev_cell HX.out 2 (by decide); have c3 := ev_cell HX.out 3 (by decide); have c4 := ev_cell HX.out 4 (by decide); have c5 := ev_cell HX.out 5 (by decide); have c6 := ev_cell HX.out 6 (by decide); have c7 := ev_cell HX.out 7 (by decide); have c8 := ev_cell HX.out 8 (by decide); have c9 := ev_cell HX.out 9 (by decide); have c10 := ev_cell HX.out 10 (by decide); simp only [fld_0, fld_1, fld_2, fld_3, fld_4, fld_5, fld_6, fld_7, fld_8, fld_9, fld_10] at c0 c1 c2 c3 c4 c5 c6 c7 c8 c9 c10))
  go_ret
  exact ⟨rfl, HB.out⟩
theorem sDskText_none (e : Ev) (hk : e.kind ≠ 1) (hr : ¬ (InB e.kind 2 7 ∧ InB e.at_ 0 999 ∧ InB e.place 0 3 ∧ InB e.keep 0 999)) (w : World) :
    Calls Tryd.prog 5 #[e.val] w fun e' w' => e' = .returned (.string ⟨#[]⟩) ∧ Below w.heap.size w w' := by
  simp only [Ev.val]
  have hkb : (e.kind == 1) = false := by simp [hk]
  clear hk
  rcases h0 : inB e.kind 2 7 with _ | _
  · clear hr
    go_enter Tryd.func5, Tryd.ntmps5
    go_wp2_with (first | ((with_reducible refine gate_dst (N := 1) rfl ?_); refine box_event ?hg (N := 1) ?hd (cs := #[.int .i64 e.kind, .int .i64 e.op.kind, .int .i64 e.op.who, .int .i64 e.op.in_, .int .i64 e.op.code, .int .i64 e.op.sec, .int .i64 e.op.fam, .int .i64 e.op.gen, .int .i64 e.at_, .int .i64 e.place, .int .i64 e.keep]) (t := 29) ?hr ?_; (case hd => rfl); (case hg => rfl); (case hr => first | (go_simp; done) | (go_simp; rfl)); intro B hg w3 hbox hb; have c0 := (blk_cell hbox 0).trans (rfl : _ = some (Value.int .i64 e.kind)); have c1 := (blk_cell hbox 1).trans (rfl : _ = some (Value.int .i64 e.op.kind)); have c2 := (blk_cell hbox 2).trans (rfl : _ = some (Value.int .i64 e.op.who)); have c3 := (blk_cell hbox 3).trans (rfl : _ = some (Value.int .i64 e.op.in_)); have c4 := (blk_cell hbox 4).trans (rfl : _ = some (Value.int .i64 e.op.code)); have c5 := (blk_cell hbox 5).trans (rfl : _ = some (Value.int .i64 e.op.sec)); have c6 := (blk_cell hbox 6).trans (rfl : _ = some (Value.int .i64 e.op.fam)); have c7 := (blk_cell hbox 7).trans (rfl : _ = some (Value.int .i64 e.op.gen)); have c8 := (blk_cell hbox 8).trans (rfl : _ = some (Value.int .i64 e.at_)); have c9 := (blk_cell hbox 9).trans (rfl : _ = some (Value.int .i64 e.place)); have c10 := (blk_cell hbox 10).trans (rfl : _ = some (Value.int .i64 e.keep)); have HX := Lib.hid hbox; have HB := Lib.hid hb; clear hbox hb hg) | (go_at_call 14; refine (l1In_any _ _ _ _).mono ?_; rintro e' w' ⟨rfl, rfl⟩))
    go_ret
    exact ⟨rfl, HB.out⟩
  rcases h1 : inB e.at_ 0 999 with _ | _
  · clear hr
    go_enter Tryd.func5, Tryd.ntmps5
    go_wp2_with (first | ((with_reducible refine gate_dst (N := 1) rfl ?_); refine box_event ?hg (N := 1) ?hd (cs := #[.int .i64 e.kind, .int .i64 e.op.kind, .int .i64 e.op.who, .int .i64 e.op.in_, .int .i64 e.op.code, .int .i64 e.op.sec, .int .i64 e.op.fam, .int .i64 e.op.gen, .int .i64 e.at_, .int .i64 e.place, .int .i64 e.keep]) (t := 29) ?hr ?_; (case hd => rfl); (case hg => rfl); (case hr => first | (go_simp; done) | (go_simp; rfl)); intro B hg w3 hbox hb; have c0 := (blk_cell hbox 0).trans (rfl : _ = some (Value.int .i64 e.kind)); have c1 := (blk_cell hbox 1).trans (rfl : _ = some (Value.int .i64 e.op.kind)); have c2 := (blk_cell hbox 2).trans (rfl : _ = some (Value.int .i64 e.op.who)); have c3 := (blk_cell hbox 3).trans (rfl : _ = some (Value.int .i64 e.op.in_)); have c4 := (blk_cell hbox 4).trans (rfl : _ = some (Value.int .i64 e.op.code)); have c5 := (blk_cell hbox 5).trans (rfl : _ = some (Value.int .i64 e.op.sec)); have c6 := (blk_cell hbox 6).trans (rfl : _ = some (Value.int .i64 e.op.fam)); have c7 := (blk_cell hbox 7).trans (rfl : _ = some (Value.int .i64 e.op.gen)); have c8 := (blk_cell hbox 8).trans (rfl : _ = some (Value.int .i64 e.at_)); have c9 := (blk_cell hbox 9).trans (rfl : _ = some (Value.int .i64 e.place)); have c10 := (blk_cell hbox 10).trans (rfl : _ = some (Value.int .i64 e.keep)); have HX := Lib.hid hbox; have HB := Lib.hid hb; clear hbox hb hg) | (go_at_call 14; refine (l1In_any _ _ _ _).mono ?_; rintro e' w' ⟨rfl, rfl⟩))
    go_ret
    exact ⟨rfl, HB.out⟩
  rcases h2 : inB e.place 0 3 with _ | _
  · clear hr
    go_enter Tryd.func5, Tryd.ntmps5
    go_wp2_with (first | ((with_reducible refine gate_dst (N := 1) rfl ?_); refine box_event ?hg (N := 1) ?hd (cs := #[.int .i64 e.kind, .int .i64 e.op.kind, .int .i64 e.op.who, .int .i64 e.op.in_, .int .i64 e.op.code, .int .i64 e.op.sec, .int .i64 e.op.fam, .int .i64 e.op.gen, .int .i64 e.at_, .int .i64 e.place, .int .i64 e.keep]) (t := 29) ?hr ?_; (case hd => rfl); (case hg => rfl); (case hr => first | (go_simp; done) | (go_simp; rfl)); intro B hg w3 hbox hb; have c0 := (blk_cell hbox 0).trans (rfl : _ = some (Value.int .i64 e.kind)); have c1 := (blk_cell hbox 1).trans (rfl : _ = some (Value.int .i64 e.op.kind)); have c2 := (blk_cell hbox 2).trans (rfl : _ = some (Value.int .i64 e.op.who)); have c3 := (blk_cell hbox 3).trans (rfl : _ = some (Value.int .i64 e.op.in_)); have c4 := (blk_cell hbox 4).trans (rfl : _ = some (Value.int .i64 e.op.code)); have c5 := (blk_cell hbox 5).trans (rfl : _ = some (Value.int .i64 e.op.sec)); have c6 := (blk_cell hbox 6).trans (rfl : _ = some (Value.int .i64 e.op.fam)); have c7 := (blk_cell hbox 7).trans (rfl : _ = some (Value.int .i64 e.op.gen)); have c8 := (blk_cell hbox 8).trans (rfl : _ = some (Value.int .i64 e.at_)); have c9 := (blk_cell hbox 9).trans (rfl : _ = some (Value.int .i64 e.place)); have c10 := (blk_cell hbox 10).trans (rfl : _ = some (Value.int .i64 e.keep)); have HX := Lib.hid hbox; have HB := Lib.hid hb; clear hbox hb hg) | (go_at_call 14; refine (l1In_any _ _ _ _).mono ?_; rintro e' w' ⟨rfl, rfl⟩))
    go_ret
    exact ⟨rfl, HB.out⟩
  rcases h3 : inB e.keep 0 999 with _ | _
  · clear hr
    go_enter Tryd.func5, Tryd.ntmps5
    go_wp2_with (first | ((with_reducible refine gate_dst (N := 1) rfl ?_); refine box_event ?hg (N := 1) ?hd (cs := #[.int .i64 e.kind, .int .i64 e.op.kind, .int .i64 e.op.who, .int .i64 e.op.in_, .int .i64 e.op.code, .int .i64 e.op.sec, .int .i64 e.op.fam, .int .i64 e.op.gen, .int .i64 e.at_, .int .i64 e.place, .int .i64 e.keep]) (t := 29) ?hr ?_; (case hd => rfl); (case hg => rfl); (case hr => first | (go_simp; done) | (go_simp; rfl)); intro B hg w3 hbox hb; have c0 := (blk_cell hbox 0).trans (rfl : _ = some (Value.int .i64 e.kind)); have c1 := (blk_cell hbox 1).trans (rfl : _ = some (Value.int .i64 e.op.kind)); have c2 := (blk_cell hbox 2).trans (rfl : _ = some (Value.int .i64 e.op.who)); have c3 := (blk_cell hbox 3).trans (rfl : _ = some (Value.int .i64 e.op.in_)); have c4 := (blk_cell hbox 4).trans (rfl : _ = some (Value.int .i64 e.op.code)); have c5 := (blk_cell hbox 5).trans (rfl : _ = some (Value.int .i64 e.op.sec)); have c6 := (blk_cell hbox 6).trans (rfl : _ = some (Value.int .i64 e.op.fam)); have c7 := (blk_cell hbox 7).trans (rfl : _ = some (Value.int .i64 e.op.gen)); have c8 := (blk_cell hbox 8).trans (rfl : _ = some (Value.int .i64 e.at_)); have c9 := (blk_cell hbox 9).trans (rfl : _ = some (Value.int .i64 e.place)); have c10 := (blk_cell hbox 10).trans (rfl : _ = some (Value.int .i64 e.keep)); have HX := Lib.hid hbox; have HB := Lib.hid hb; clear hbox hb hg) | (go_at_call 14; refine (l1In_any _ _ _ _).mono ?_; rintro e' w' ⟨rfl, rfl⟩))
    go_ret
    exact ⟨rfl, HB.out⟩
  exact absurd ⟨dec_iff.1 h0, dec_iff.1 h1, dec_iff.1 h2, dec_iff.1 h3⟩ hr
end Go.Proofs.YtaeifbmdjjmgkaaDoor
