/- What the program's DskText writes of an event that is one. Conditions: none. -/
import Derived.Test.YtaeifbmdjjmgkaaDoorDskT
namespace Go.Proofs.YtaeifbmdjjmgkaaDoor
open Go.RowKit Go.Proofs.YtaeifbmdjjmgkaaDoorW.PrintWords
set_option linter.unusedVariables false
set_option linter.unusedSimpArgs false
set_option maxRecDepth 100000

set_option maxHeartbeats 8000000 in
theorem iDskText_hit (e : Ev) (he : ∀ o, -9223372036854775808 ≤ e.fld o ∧ e.fld o ≤ 9223372036854775807) (k : Nat) (hk11 : k < 11) (hi : idxOf (matB e) manners = k) (hv : evOkB e = true) (w : World) (ht : Tab w) :
    Calls Tryd.prog 7 #[e.val] w fun e' w' => e' = .returned (.string (textOf e k)) ∧ Below w.heap.size w w' := by
  have hop := fun W => iOpOk_any e.op W
  rw [show e.op.val = .agg #[.int .i64 e.op.kind, .int .i64 e.op.who, .int .i64 e.op.in_, .int .i64 e.op.code, .int .i64 e.op.sec, .int .i64 e.op.fam, .int .i64 e.op.gen] from rfl] at hop
  have HO := Lib.hid hop
  clear hop
  simp only [Ev.val]
  have HT := Lib.hid ht
  have HE := Lib.hid he
  clear ht he
  have hlen := manners_len
  have hev2 : evOkB e = if e.kind = 1 then opOkB e.op else dec (InB e.at_ 0 999 ∧ InB e.keep 0 999 ∧ InB e.place 0 3) := rfl
  rw [hv] at hev2
  clear hv
  by_cases hk : e.kind = 1
  · rw [if_pos hk] at hev2
    have hkb : (e.kind == 1) = true := by simp [hk]
    clear hk
    have hev3 := hev2.symm
    clear hev2
    go_enter Tryd.func7, Tryd.ntmps7
    go_wp2_with (first | ((with_reducible refine gate_dst (N := 1) rfl ?_); refine box_event ?hg (N := 1) ?hd (cs := #[.int .i64 e.kind, .int .i64 e.op.kind, .int .i64 e.op.who, .int .i64 e.op.in_, .int .i64 e.op.code, .int .i64 e.op.sec, .int .i64 e.op.fam, .int .i64 e.op.gen, .int .i64 e.at_, .int .i64 e.place, .int .i64 e.keep]) (t := 29) ?hr ?_; (case hd => rfl); (case hg => rfl); (case hr => first | (go_simp; done) | (go_simp; rfl)); intro B hg w3 hbox hb; have c0 := (blk_cell hbox 0).trans (rfl : _ = some (Value.int .i64 e.kind)); have c1 := (blk_cell hbox 1).trans (rfl : _ = some (Value.int .i64 e.op.kind)); have c2 := (blk_cell hbox 2).trans (rfl : _ = some (Value.int .i64 e.op.who)); have c3 := (blk_cell hbox 3).trans (rfl : _ = some (Value.int .i64 e.op.in_)); have c4 := (blk_cell hbox 4).trans (rfl : _ = some (Value.int .i64 e.op.code)); have c5 := (blk_cell hbox 5).trans (rfl : _ = some (Value.int .i64 e.op.sec)); have c6 := (blk_cell hbox 6).trans (rfl : _ = some (Value.int .i64 e.op.fam)); have c7 := (blk_cell hbox 7).trans (rfl : _ = some (Value.int .i64 e.op.gen)); have c8 := (blk_cell hbox 8).trans (rfl : _ = some (Value.int .i64 e.at_)); have c9 := (blk_cell hbox 9).trans (rfl : _ = some (Value.int .i64 e.place)); have c10 := (blk_cell hbox 10).trans (rfl : _ = some (Value.int .i64 e.keep)); have HX := Lib.hid hbox; have HB := Lib.hid hb; clear hbox hb hg) | (go_at_call 16; refine (iIn_any _ _ _ _).mono ?_; rintro e' w' ⟨rfl, rfl⟩) | (go_at_call 17; refine (HO.out _).mono ?_; rintro e' w4 ⟨rfl, hb⟩; have HX4 := Lib.hid (blk_below HX.out hb); have HB4 := Lib.hid (below_step HB.out hb); clear hb HX HB c0 c1 c2 c3 c4 c5 c6 c7 c8 c9 c10; have HX := HX4; have HB := HB4; clear HX4 HB4) | (go_at_call 18; refine (manners_any B _).mono ?_; rintro e' w5 ⟨v, rfl, hR, hb⟩; obtain ⟨A, c, rfl, hc, hC⟩ := Kd.R_reads hR; have HX5 := Lib.hid (blk_below HX.out hb); have HB5 := Lib.hid (below_step HB.out hb); have HR := Lib.hid hC; (try clear c0 c1 c2 c3 c4 c5 c6 c7 c8 c9 c10); clear hR hC hb hc HX HB; have HX := HX5; have HB := HB5; clear HX5 HB5) | (go_at_call 19; refine (idxFunc_any B 20 _ (matB e) manners _ _ _ HR.out eg20 (fun W m A1 n1 c1 hbW => (text1_any B e m A1 n1 c1 W ((blk_cell (blk_below HX.out hbW) 0).trans rfl) ((blk_cell (blk_below HX.out hbW) 1).trans rfl) (blk_lt (blk_below HX.out hbW))).mono fun _ _ ⟨he_, hz_⟩ => ⟨he_, below_step hbW hz_⟩)).mono ?_; rintro e' w6 ⟨rfl, hb⟩; have HX6 := Lib.hid (blk_below HX.out hb); have HB6 := Lib.hid (below_step HB.out hb); have hR6 := Kd.C_below HR.out hb; clear HX HB HR hb; have HX := HX6; have HB := HB6; clear HX6 HB6; obtain ⟨ad, A1, c1, hA, q1, q2, q3, q4, hl4, hP⟩ := at_man hR6 k (by rw [manners_len]; exact hk11); subst hA; clear hR6; have HP := Lib.hid hP; clear hP))
    all_goals
      go_loopw [6, 8, 49] (fun s6 _ s49 wr => ∃ j : Nat, j ≤ (ix .z manners k).offs.length ∧ s49 = .int .i64 j ∧ s6 = .string (joinK e (ix .z manners k) j) ∧ Hid (Below w6.heap.size w6 wr)) (fun _ _ s49 _ => (ix .z manners k).offs.length - (intOf s49).toNat)
      case atStart => exact ⟨0, Nat.zero_le _, rfl, by rw [joinK_zero], Lib.hid (Below.refl _ _)⟩
      case round =>
        obtain ⟨j, hj, rfl, rfl, HW⟩ := hrel
        by_cases hlt : j < (ix .z manners k).offs.length
        · obtain ⟨ad1, hA1, p1⟩ := at_ptr (Kd.C_below HP.out HW.out) j hlt
          subst hA1
          have p2 := ev_cell (blk_below HX.out HW.out) (ix 0 (ix .z manners k).offs j) (man_off k j hk11 hlt)
          have hf := HE.out (ix 0 (ix .z manners k).offs j)
          have hs1 := joinK_size e HE.out (ix .z manners k) j
          have hs2 := itoaB_size (e.fld (ix 0 (ix .z manners k).offs j)) hf.1 hf.2
          have hs3 : (joinK e (ix .z manners k) j).size ≤ 100 := by have := man_word k hk11; have := man_offs k hk11; omega
          have HF := Lib.hid hf; have HLt := Lib.hid hlt; have hj4 : j < 4 := (by have := man_offs k hk11; omega)
          clear hs1 hf
          have HTr := Lib.hid (tab_below HT.out (below_step HB.out HW.out))
          go_wp2_with (go_at_call 21; refine (iItoa_any _ HF.out.1 HF.out.2 _ HTr.out).mono ?_; rintro e' w7 ⟨rfl, hb⟩; have HB7 := Lib.hid hb; clear hb)
          go_roundw
          case rel => exact ⟨j + 1, HLt.out, by go_num, by rw [joinK_succ e _ j hlt]; rfl, Lib.hid (below_step HW.out HB7.out)⟩
          case measure => have := HLt.out; simp [intOf]; omega
        · have hjl : j = (ix .z manners k).offs.length := by omega
          go_wp2_with fail
          go_ret
          exact ⟨ret_str (by rw [textOf_at, hjl]), below_step HB.out HW.out⟩
  · rw [if_neg hk] at hev2
    have hkb : (e.kind == 1) = false := by simp [hk]
    obtain ⟨r1, r2, r3⟩ := dec_iff.1 hev2.symm
    have f1 : inB e.at_ 0 999 = true := dec_true r1
    have f2 : inB e.keep 0 999 = true := dec_true r2
    have f3 : inB e.place 0 3 = true := dec_true r3
    clear hk hev2 r1 r2 r3
    go_enter Tryd.func7, Tryd.ntmps7
    go_wp2_with (first | ((with_reducible refine gate_dst (N := 1) rfl ?_); refine box_event ?hg (N := 1) ?hd (cs := #[.int .i64 e.kind, .int .i64 e.op.kind, .int .i64 e.op.who, .int .i64 e.op.in_, .int .i64 e.op.code, .int .i64 e.op.sec, .int .i64 e.op.fam, .int .i64 e.op.gen, .int .i64 e.at_, .int .i64 e.place, .int .i64 e.keep]) (t := 29) ?hr ?_; (case hd => rfl); (case hg => rfl); (case hr => first | (go_simp; done) | (go_simp; rfl)); intro B hg w3 hbox hb; have c0 := (blk_cell hbox 0).trans (rfl : _ = some (Value.int .i64 e.kind)); have c1 := (blk_cell hbox 1).trans (rfl : _ = some (Value.int .i64 e.op.kind)); have c2 := (blk_cell hbox 2).trans (rfl : _ = some (Value.int .i64 e.op.who)); have c3 := (blk_cell hbox 3).trans (rfl : _ = some (Value.int .i64 e.op.in_)); have c4 := (blk_cell hbox 4).trans (rfl : _ = some (Value.int .i64 e.op.code)); have c5 := (blk_cell hbox 5).trans (rfl : _ = some (Value.int .i64 e.op.sec)); have c6 := (blk_cell hbox 6).trans (rfl : _ = some (Value.int .i64 e.op.fam)); have c7 := (blk_cell hbox 7).trans (rfl : _ = some (Value.int .i64 e.op.gen)); have c8 := (blk_cell hbox 8).trans (rfl : _ = some (Value.int .i64 e.at_)); have c9 := (blk_cell hbox 9).trans (rfl : _ = some (Value.int .i64 e.place)); have c10 := (blk_cell hbox 10).trans (rfl : _ = some (Value.int .i64 e.keep)); have HX := Lib.hid hbox; have HB := Lib.hid hb; clear hbox hb hg) | (go_at_call 16; refine (iIn_any _ _ _ _).mono ?_; rintro e' w' ⟨rfl, rfl⟩) | (go_at_call 17; refine (HO.out _).mono ?_; rintro e' w4 ⟨rfl, hb⟩; have HX4 := Lib.hid (blk_below HX.out hb); have HB4 := Lib.hid (below_step HB.out hb); clear hb HX HB c0 c1 c2 c3 c4 c5 c6 c7 c8 c9 c10; have HX := HX4; have HB := HB4; clear HX4 HB4) | (go_at_call 18; refine (manners_any B _).mono ?_; rintro e' w5 ⟨v, rfl, hR, hb⟩; obtain ⟨A, c, rfl, hc, hC⟩ := Kd.R_reads hR; have HX5 := Lib.hid (blk_below HX.out hb); have HB5 := Lib.hid (below_step HB.out hb); have HR := Lib.hid hC; (try clear c0 c1 c2 c3 c4 c5 c6 c7 c8 c9 c10); clear hR hC hb hc HX HB; have HX := HX5; have HB := HB5; clear HX5 HB5) | (go_at_call 19; refine (idxFunc_any B 20 _ (matB e) manners _ _ _ HR.out eg20 (fun W m A1 n1 c1 hbW => (text1_any B e m A1 n1 c1 W ((blk_cell (blk_below HX.out hbW) 0).trans rfl) ((blk_cell (blk_below HX.out hbW) 1).trans rfl) (blk_lt (blk_below HX.out hbW))).mono fun _ _ ⟨he_, hz_⟩ => ⟨he_, below_step hbW hz_⟩)).mono ?_; rintro e' w6 ⟨rfl, hb⟩; have HX6 := Lib.hid (blk_below HX.out hb); have HB6 := Lib.hid (below_step HB.out hb); have hR6 := Kd.C_below HR.out hb; clear HX HB HR hb; have HX := HX6; have HB := HB6; clear HX6 HB6; obtain ⟨ad, A1, c1, hA, q1, q2, q3, q4, hl4, hP⟩ := at_man hR6 k (by rw [manners_len]; exact hk11); subst hA; clear hR6; have HP := Lib.hid hP; clear hP))
    go_loopw [6, 8, 49] (fun s6 _ s49 wr => ∃ j : Nat, j ≤ (ix .z manners k).offs.length ∧ s49 = .int .i64 j ∧ s6 = .string (joinK e (ix .z manners k) j) ∧ Hid (Below w6.heap.size w6 wr)) (fun _ _ s49 _ => (ix .z manners k).offs.length - (intOf s49).toNat)
    case atStart => exact ⟨0, Nat.zero_le _, rfl, by rw [joinK_zero], Lib.hid (Below.refl _ _)⟩
    case round =>
      obtain ⟨j, hj, rfl, rfl, HW⟩ := hrel
      by_cases hlt : j < (ix .z manners k).offs.length
      · obtain ⟨ad1, hA1, p1⟩ := at_ptr (Kd.C_below HP.out HW.out) j hlt
        subst hA1
        have p2 := ev_cell (blk_below HX.out HW.out) (ix 0 (ix .z manners k).offs j) (man_off k j hk11 hlt)
        have hf := HE.out (ix 0 (ix .z manners k).offs j)
        have hs1 := joinK_size e HE.out (ix .z manners k) j
        have hs2 := itoaB_size (e.fld (ix 0 (ix .z manners k).offs j)) hf.1 hf.2
        have hs3 : (joinK e (ix .z manners k) j).size ≤ 100 := by have := man_word k hk11; have := man_offs k hk11; omega
        have HF := Lib.hid hf; have HLt := Lib.hid hlt; have hj4 : j < 4 := (by have := man_offs k hk11; omega)
        clear hs1 hf
        have HTr := Lib.hid (tab_below HT.out (below_step HB.out HW.out))
        go_wp2_with (go_at_call 21; refine (iItoa_any _ HF.out.1 HF.out.2 _ HTr.out).mono ?_; rintro e' w7 ⟨rfl, hb⟩; have HB7 := Lib.hid hb; clear hb)
        go_roundw
        case rel => exact ⟨j + 1, HLt.out, by go_num, by rw [joinK_succ e _ j hlt]; rfl, Lib.hid (below_step HW.out HB7.out)⟩
        case measure => have := HLt.out; simp [intOf]; omega
      · have hjl : j = (ix .z manners k).offs.length := by omega
        go_wp2_with fail
        go_ret
        exact ⟨ret_str (by rw [textOf_at, hjl]), below_step HB.out HW.out⟩
theorem iDskText_any (e : Ev) (he : ∀ o, -9223372036854775808 ≤ e.fld o ∧ e.fld o ≤ 9223372036854775807) (w : World) (ht : Tab w) :
    Calls Tryd.prog 7 #[e.val] w fun e' w' => e' = .returned (.string (dskText e)) ∧ Below w.heap.size w w' := by
  unfold dskText
  rcases idxOf_cases (matB e) with hi | ⟨k, hk11, hi⟩
  · have : (if evOkB e = true then textOf e (idxOf (matB e) manners) else ⟨#[]⟩) = ⟨#[]⟩ := by
      rw [hi]
      split
      · rfl
      · rfl
    rw [this]
    exact iDskText_miss e hi w
  · cases hv : evOkB e with
    | true =>
      rw [if_pos rfl, hi]
      exact iDskText_hit e he k hk11 hi hv w ht
    | false =>
      rw [if_neg (by decide)]
      exact iDskText_not e k hk11 hi hv w
end Go.Proofs.YtaeifbmdjjmgkaaDoor
