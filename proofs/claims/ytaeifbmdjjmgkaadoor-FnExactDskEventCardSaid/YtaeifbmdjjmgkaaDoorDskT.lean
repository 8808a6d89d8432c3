/- How the program's DskText finds the manner of an event, and what it writes. Conditions: none. -/
import Derived.Test.YtaeifbmdjjmgkaaDoorDskC
import Derived.Test.YtaeifbmdjjmgkaaDoorDskM
import Derived.Test.YtaeifbmdjjmgkaaDoorItoa
import Derived.Test.YtaeifbmdjjmgkaaDoorDskS
import Derived.Test.YtaeifbmdjjmgkaaDoorWLast
namespace Go.Proofs.YtaeifbmdjjmgkaaDoor
open Go.RowKit Go.Proofs.YtaeifbmdjjmgkaaDoorW.PrintWords
set_option linter.unusedVariables false
set_option linter.unusedSimpArgs false
set_option maxRecDepth 100000

set_option maxHeartbeats 2000000 in
theorem text1_any (B : Nat) (e : Ev) (m : Man) (A1 : Option Addr) (n1 c1 : Nat) (w : World) (h0 : w.cell? ⟨B, 0, none⟩ = some (.int .i64 e.kind)) (h1 : w.cell? ⟨B, 1, none⟩ = some (.int .i64 e.op.kind)) (hB : B < w.heap.size) :
    Calls Tryd.prog 20 #[.agg #[.string m.word, .int .i64 m.kind, .int .i64 m.op, .slice A1 n1 c1], .pointer (some ⟨B, 0, none⟩)] w fun e' w' => e' = .returned (.bool (matB e m)) ∧ Below w.heap.size w w' := by
  have hb : Below w.heap.size w (w.alloc (.cells #[.string m.word, .int .i64 m.kind, .int .i64 m.op, .slice A1 n1 c1] 50)) := below_alloc (Below.refl _ _) _
  have g0 := pw_cell_below hb h0
  have g1 := pw_cell_below hb h1
  obtain ⟨mw, mk, mo, mf⟩ := m
  obtain ⟨ek, ⟨ok, o1, o2, o3, o4, o5, o6⟩, e1, e2, e3⟩ := e
  simp only at g0 g1 hb ⊢
  have hr : matB ⟨ek, ⟨ok, o1, o2, o3, o4, o5, o6⟩, e1, e2, e3⟩ ⟨mw, mk, mo, mf⟩ = (mk == ek && (ek != 1 || mo == ok)) := rfl
  rw [hr]
  clear hr h0 h1
  have HB := Lib.hid hb
  clear hb
  rcases ha : (mk == ek) with _ | _ <;> rcases hc : (ek != 1) with _ | _ <;> rcases hd : (mo == ok) with _ | _ <;>
  · go_enter Tryd.func20, Tryd.ntmps20
    go_wp2_with fail
    try (go_quiet (fail); go_wp2)
    go_ret
    exact ⟨rfl, by repeat (first | exact HB.out | apply below_alloc | apply pw_below_drewN | apply below_drew1)⟩
theorem eg20 : ∀ args w, (callFunc 20 args).run Tryd.prog w = .ok (.enter 20 args) w := fun args w => Go.Proofs.YtaeifbmdjjmgkaaDoorW.PrintLast.enters_ Tryd.func20 (by kernel_rfl) rfl args w
theorem textOf_at (e : Ev) (k : Nat) : textOf e k = joinK e (ix .z manners k) (ix .z manners k).offs.length := by
  unfold textOf
  rw [if_neg (by omega), joinK_all, Int.toNat_natCast]

set_option maxHeartbeats 8000000 in
/-- Where no manner fits. -/
theorem iDskText_miss (e : Ev) (hi : idxOf (matB e) manners = -1) (w : World) :
    Calls Tryd.prog 7 #[e.val] w fun e' w' => e' = .returned (.string ⟨#[]⟩) ∧ Below w.heap.size w w' := by
  have hop := fun W => iOpOk_any e.op W
  rw [show e.op.val = .agg #[.int .i64 e.op.kind, .int .i64 e.op.who, .int .i64 e.op.in_, .int .i64 e.op.code, .int .i64 e.op.sec, .int .i64 e.op.fam, .int .i64 e.op.gen] from rfl] at hop
  have HO := Lib.hid hop
  clear hop
  simp only [Ev.val]
  go_enter Tryd.func7, Tryd.ntmps7
  go_wp2_with (first | ((with_reducible refine gate_dst (N := 1) rfl ?_); refine box_event ?hg (N := 1) ?hd (cs := #[.int .i64 e.kind, .int .i64 e.op.kind, .int .i64 e.op.who, .int .i64 e.op.in_, .int .i64 e.op.code, .int .i64 e.op.sec, .int .i64 e.op.fam, .int .i64 e.op.gen, .int .i64 e.at_, .int .i64 e.place, .int .i64 e.keep]) (t := 29) ?hr ?_; (case hd => rfl); (case hg => rfl); (case hr => first | (go_simp; done) | (go_simp; rfl)); intro B hg w3 hbox hb; have c0 := (blk_cell hbox 0).trans (rfl : _ = some (Value.int .i64 e.kind)); have c1 := (blk_cell hbox 1).trans (rfl : _ = some (Value.int .i64 e.op.kind)); have c2 := (blk_cell hbox 2).trans (rfl : _ = some (Value.int .i64 e.op.who)); have c3 := (blk_cell hbox 3).trans (rfl : _ = some (Value.int .i64 e.op.in_)); have c4 := (blk_cell hbox 4).trans (rfl : _ = some (Value.int .i64 e.op.code)); have c5 := (blk_cell hbox 5).trans (rfl : _ = some (Value.int .i64 e.op.sec)); have c6 := (blk_cell hbox 6).trans (rfl : _ = some (Value.int .i64 e.op.fam)); have c7 := (blk_cell hbox 7).trans (rfl : _ = some (Value.int .i64 e.op.gen)); have c8 := (blk_cell hbox 8).trans (rfl : _ = some (Value.int .i64 e.at_)); have c9 := (blk_cell hbox 9).trans (rfl : _ = some (Value.int .i64 e.place)); have c10 := (blk_cell hbox 10).trans (rfl : _ = some (Value.int .i64 e.keep)); have HX := Lib.hid hbox; have HB := Lib.hid hb; clear hbox hb hg) | (go_at_call 16; refine (iIn_any _ _ _ _).mono ?_; rintro e' w' ⟨rfl, rfl⟩) | (go_at_call 17; refine (HO.out _).mono ?_; rintro e' w4 ⟨rfl, hb⟩; have HX4 := Lib.hid (blk_below HX.out hb); have HB4 := Lib.hid (below_step HB.out hb); clear hb HX HB c0 c1 c2 c3 c4 c5 c6 c7 c8 c9 c10; have HX := HX4; have HB := HB4; clear HX4 HB4) | (go_at_call 18; refine (manners_any B _).mono ?_; rintro e' w5 ⟨v, rfl, hR, hb⟩; obtain ⟨A, c, rfl, hc, hC⟩ := Kd.R_reads hR; have HX5 := Lib.hid (blk_below HX.out hb); have HB5 := Lib.hid (below_step HB.out hb); have HR := Lib.hid hC; (try clear c0 c1 c2 c3 c4 c5 c6 c7 c8 c9 c10); clear hR hC hb hc HX HB; have HX := HX5; have HB := HB5; clear HX5 HB5) | (go_at_call 19; refine (idxFunc_any B 20 _ (matB e) manners _ _ _ HR.out eg20 (fun W m A1 n1 c1 hbW => (text1_any B e m A1 n1 c1 W ((blk_cell (blk_below HX.out hbW) 0).trans rfl) ((blk_cell (blk_below HX.out hbW) 1).trans rfl) (blk_lt (blk_below HX.out hbW))).mono fun _ _ ⟨he_, hz_⟩ => ⟨he_, below_step hbW hz_⟩)).mono ?_; rintro e' w6 ⟨rfl, hb⟩; have HX6 := Lib.hid (blk_below HX.out hb); have HB6 := Lib.hid (below_step HB.out hb); have hR6 := Kd.C_below HR.out hb; clear HX HB HR hb; have HX := HX6; have HB := HB6; clear HX6 HB6; clear hR6))
  all_goals go_ret
  all_goals exact ⟨rfl, HB.out⟩

set_option maxHeartbeats 8000000 in
/-- Where one fits, and the event isn't ok. -/
theorem iDskText_not (e : Ev) (k : Nat) (hk11 : k < 11) (hi : idxOf (matB e) manners = k) (hv : evOkB e = false) (w : World) :
    Calls Tryd.prog 7 #[e.val] w fun e' w' => e' = .returned (.string ⟨#[]⟩) ∧ Below w.heap.size w w' := by
  have hop := fun W => iOpOk_any e.op W
  rw [show e.op.val = .agg #[.int .i64 e.op.kind, .int .i64 e.op.who, .int .i64 e.op.in_, .int .i64 e.op.code, .int .i64 e.op.sec, .int .i64 e.op.fam, .int .i64 e.op.gen] from rfl] at hop
  have HO := Lib.hid hop
  clear hop
  simp only [Ev.val]
  have hev2 : evOkB e = if e.kind = 1 then opOkB e.op else dec (InB e.at_ 0 999 ∧ InB e.keep 0 999 ∧ InB e.place 0 3) := rfl
  rw [hv] at hev2
  clear hv
  by_cases hk : e.kind = 1
  · rw [if_pos hk] at hev2
    have hkb : (e.kind == 1) = true := by simp [hk]
    clear hk
    have hev3 := hev2.symm
    clear hev2
    go_enter Tryd.func7, Tryd.ntmps7
    go_wp2_with (first | ((with_reducible refine gate_dst (N := 1) rfl ?_); refine box_event ?hg (N := 1) ?hd (cs := #[.int .i64 e.kind, .int .i64 e.op.kind, .int .i64 e.op.who, .int .i64 e.op.in_, .int .i64 e.op.code, .int .i64 e.op.sec, .int .i64 e.op.fam, .int .i64 e.op.gen, .int .i64 e.at_, .int .i64 e.place, .int .i64 e.keep]) (t := 29) ?hr ?_; (case hd => rfl); (case hg => rfl); (case hr => first | (go_simp; done) | (go_simp; rfl)); intro B hg w3 hbox hb; have c0 := (blk_cell hbox 0).trans (rfl : _ = some (Value.int .i64 e.kind)); have c1 := (blk_cell hbox 1).trans (rfl : _ = some (Value.int .i64 e.op.kind)); have c2 := (blk_cell hbox 2).trans (rfl : _ = some (Value.int .i64 e.op.who)); have c3 := (blk_cell hbox 3).trans (rfl : _ = some (Value.int .i64 e.op.in_)); have c4 := (blk_cell hbox 4).trans (rfl : _ = some (Value.int .i64 e.op.code)); have c5 := (blk_cell hbox 5).trans (rfl : _ = some (Value.int .i64 e.op.sec)); have c6 := (blk_cell hbox 6).trans (rfl : _ = some (Value.int .i64 e.op.fam)); have c7 := (blk_cell hbox 7).trans (rfl : _ = some (Value.int .i64 e.op.gen)); have c8 := (blk_cell hbox 8).trans (rfl : _ = some (Value.int .i64 e.at_)); have c9 := (blk_cell hbox 9).trans (rfl : _ = some (Value.int .i64 e.place)); have c10 := (blk_cell hbox 10).trans (rfl : _ = some (Value.int .i64 e.keep)); have HX := Lib.hid hbox; have HB := Lib.hid hb; clear hbox hb hg) | (go_at_call 16; refine (iIn_any _ _ _ _).mono ?_; rintro e' w' ⟨rfl, rfl⟩) | (go_at_call 17; refine (HO.out _).mono ?_; rintro e' w4 ⟨rfl, hb⟩; have HX4 := Lib.hid (blk_below HX.out hb); have HB4 := Lib.hid (below_step HB.out hb); clear hb HX HB c0 c1 c2 c3 c4 c5 c6 c7 c8 c9 c10; have HX := HX4; have HB := HB4; clear HX4 HB4) | (go_at_call 18; refine (manners_any B _).mono ?_; rintro e' w5 ⟨v, rfl, hR, hb⟩; obtain ⟨A, c, rfl, hc, hC⟩ := Kd.R_reads hR; have HX5 := Lib.hid (blk_below HX.out hb); have HB5 := Lib.hid (below_step HB.out hb); have HR := Lib.hid hC; (try clear c0 c1 c2 c3 c4 c5 c6 c7 c8 c9 c10); clear hR hC hb hc HX HB; have HX := HX5; have HB := HB5; clear HX5 HB5) | (go_at_call 19; refine (idxFunc_any B 20 _ (matB e) manners _ _ _ HR.out eg20 (fun W m A1 n1 c1 hbW => (text1_any B e m A1 n1 c1 W ((blk_cell (blk_below HX.out hbW) 0).trans rfl) ((blk_cell (blk_below HX.out hbW) 1).trans rfl) (blk_lt (blk_below HX.out hbW))).mono fun _ _ ⟨he_, hz_⟩ => ⟨he_, below_step hbW hz_⟩)).mono ?_; rintro e' w6 ⟨rfl, hb⟩; have HX6 := Lib.hid (blk_below HX.out hb); have HB6 := Lib.hid (below_step HB.out hb); have hR6 := Kd.C_below HR.out hb; clear HX HB HR hb; have HX := HX6; have HB := HB6; clear HX6 HB6; obtain ⟨ad, A1, c1, hA, q1, q2, q3, q4, hl4, hP⟩ := at_man hR6 k (by rw [manners_len]; exact hk11); subst hA; clear hR6; have HP := Lib.hid hP; clear hP))
    all_goals go_ret
    all_goals exact ⟨rfl, HB.out⟩
  · rw [if_neg hk] at hev2
    have hkb : (e.kind == 1) = false := by simp [hk]
    have hnot := dec_iff_false.1 hev2.symm
    clear hk hev2
    have H : inB e.at_ 0 999 = false ∨ inB e.keep 0 999 = false ∨ inB e.place 0 3 = false := by
      rcases h1 : inB e.at_ 0 999 with _ | _
      · exact .inl rfl
      rcases h2 : inB e.keep 0 999 with _ | _
      · exact .inr (.inl rfl)
      rcases h3 : inB e.place 0 3 with _ | _
      · exact .inr (.inr rfl)
      exact absurd ⟨dec_iff.1 h1, dec_iff.1 h2, dec_iff.1 h3⟩ hnot
    clear hnot
    rcases h1 : inB e.at_ 0 999 with _ | _ <;> rcases h2 : inB e.keep 0 999 with _ | _ <;> rcases h3 : inB e.place 0 3 with _ | _ <;>
      first
      | (simp [h1, h2, h3] at H; done)
      | (clear H
         go_enter Tryd.func7, Tryd.ntmps7
         go_wp2_with (first | ((with_reducible refine gate_dst (N := 1) rfl ?_); refine box_event ?hg (N := 1) ?hd (cs := #[.int .i64 e.kind, .int .i64 e.op.kind, .int .i64 e.op.who, .int .i64 e.op.in_, .int .i64 e.op.code, .int .i64 e.op.sec, .int .i64 e.op.fam, .int .i64 e.op.gen, .int .i64 e.at_, .int .i64 e.place, .int .i64 e.keep]) (t := 29) ?hr ?_; (case hd => rfl); (case hg => rfl); (case hr => first | (go_simp; done) | (go_simp; rfl)); intro B hg w3 hbox hb; have c0 := (blk_cell hbox 0).trans (rfl : _ = some (Value.int .i64 e.kind)); have c1 := (blk_cell hbox 1).trans (rfl : _ = some (Value.int .i64 e.op.kind)); have c2 := (blk_cell hbox 2).trans (rfl : _ = some (Value.int .i64 e.op.who)); have c3 := (blk_cell hbox 3).trans (rfl : _ = some (Value.int .i64 e.op.in_)); have c4 := (blk_cell hbox 4).trans (rfl : _ = some (Value.int .i64 e.op.code)); have c5 := (blk_cell hbox 5).trans (rfl : _ = some (Value.int .i64 e.op.sec)); have c6 := (blk_cell hbox 6).trans (rfl : _ = some (Value.int .i64 e.op.fam)); have c7 := (blk_cell hbox 7).trans (rfl : _ = some (Value.int .i64 e.op.gen)); have c8 := (blk_cell hbox 8).trans (rfl : _ = some (Value.int .i64 e.at_)); have c9 := (blk_cell hbox 9).trans (rfl : _ = some (Value.int .i64 e.place)); have c10 := (blk_cell hbox 10).trans (rfl : _ = some (Value.int .i64 e.keep)); have HX := Lib.hid hbox; have HB := Lib.hid hb; clear hbox hb hg) | (go_at_call 16; refine (iIn_any _ _ _ _).mono ?_; rintro e' w' ⟨rfl, rfl⟩) | (go_at_call 17; refine (HO.out _).mono ?_; rintro e' w4 ⟨rfl, hb⟩; have HX4 := Lib.hid (blk_below HX.out hb); have HB4 := Lib.hid (below_step HB.out hb); clear hb HX HB c0 c1 c2 c3 c4 c5 c6 c7 c8 c9 c10; have HX := HX4; have HB := HB4; clear HX4 HB4) | (go_at_call 18; refine (manners_any B _).mono ?_; rintro e' w5 ⟨v, rfl, hR, hb⟩; obtain ⟨A, c, rfl, hc, hC⟩ := Kd.R_reads hR; have HX5 := Lib.hid (blk_below HX.out hb); have HB5 := Lib.hid (below_step HB.out hb); have HR := Lib.hid hC; (try clear c0 c1 c2 c3 c4 c5 c6 c7 c8 c9 c10); clear hR hC hb hc HX HB; have HX := HX5; have HB := HB5; clear HX5 HB5) | (go_at_call 19; refine (idxFunc_any B 20 _ (matB e) manners _ _ _ HR.out eg20 (fun W m A1 n1 c1 hbW => (text1_any B e m A1 n1 c1 W ((blk_cell (blk_below HX.out hbW) 0).trans rfl) ((blk_cell (blk_below HX.out hbW) 1).trans rfl) (blk_lt (blk_below HX.out hbW))).mono fun _ _ ⟨he_, hz_⟩ => ⟨he_, below_step hbW hz_⟩)).mono ?_; rintro e' w6 ⟨rfl, hb⟩; have HX6 := Lib.hid (blk_below HX.out hb); have HB6 := Lib.hid (below_step HB.out hb); have hR6 := Kd.C_below HR.out hb; clear HX HB HR hb; have HX := HX6; have HB := HB6; clear HX6 HB6; obtain ⟨ad, A1, c1, hA, q1, q2, q3, q4, hl4, hP⟩ := at_man hR6 k (by rw [manners_len]; exact hk11); subst hA; clear hR6; have HP := Lib.hid hP; clear hP))
         go_ret
         exact ⟨rfl, HB.out⟩)
end Go.Proofs.YtaeifbmdjjmgkaaDoor
