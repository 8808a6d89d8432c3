/- What the reference's DskText writes of an event that is no operation. Conditions: none. -/
import Derived.Test.YtaeifbmdjjmgkaaDoorDskA
import Derived.Deep.RegionWith
namespace Go.Proofs.YtaeifbmdjjmgkaaDoor
open Go.RowKit Go.Proofs.YtaeifbmdjjmgkaaDoorW.PrintWords
set_option linter.unusedVariables false
set_option linter.unusedSimpArgs false
set_option maxRecDepth 100000

theorem keep5 {w W W' : World} {p q r s : Addr} {a b c d : Value} (hb : Below W.heap.size W W') (h : W.cell? p = some a ∧ W.cell? q = some b ∧ W.cell? r = some c ∧ W.cell? s = some d ∧ Below w.heap.size w W) :
    W'.cell? p = some a ∧ W'.cell? q = some b ∧ W'.cell? r = some c ∧ W'.cell? s = some d ∧ Below w.heap.size w W' :=
  ⟨pw_cell_below hb h.1, pw_cell_below hb h.2.1, pw_cell_below hb h.2.2.1, pw_cell_below hb h.2.2.2.1, below_step h.2.2.2.2 hb⟩

theorem keep5_b {w W : World} {p q r s : Addr} {a b c d : Value} (h : W.cell? p = some a ∧ W.cell? q = some b ∧ W.cell? r = some c ∧ W.cell? s = some d ∧ Below w.heap.size w W) : Below w.heap.size w W := h.2.2.2.2
set_option maxHeartbeats 8000000 in
theorem sDskText_tick (e : Ev) (hk : e.kind = 5) (h0 : InB e.kind 2 7) (h1 : InB e.at_ 0 999) (h2 : InB e.place 0 3) (h3 : InB e.keep 0 999) (w : World) :
    Calls Tryd.prog 5 #[e.val] w fun e' w' => e' = .returned (.string (⟨#[116, 105, 99, 107, 32]⟩ ++ itoaB e.place)) ∧ Below w.heap.size w w' := by
  simp only [Ev.val]
  have f0 : inB e.kind 2 7 = true := dec_true h0
  have f1 : inB e.at_ 0 999 = true := dec_true h1
  have f2 : inB e.place 0 3 = true := dec_true h2
  have f3 : inB e.keep 0 999 = true := dec_true h3
  have hk1 : (e.kind == 1) = false := by simp [hk]
  have hk5 : (e.kind == 5) = true := by simp [hk]
  have hz := itoaB_size e.place (by have := h2.1; omega) (by have := h2.2; omega)
  have HC := Lib.hid (fun W => l3PlainI_any e.place (by have := h2.1; omega) (by have := h2.2; omega) W)
  clear hk h0 h1 h2 h3
  go_enter Tryd.func5, Tryd.ntmps5
  go_wp2_with (first | ((with_reducible refine gate_dst (N := 1) rfl ?_); refine box_event ?hg (N := 1) ?hd (cs := #[.int .i64 e.kind, .int .i64 e.op.kind, .int .i64 e.op.who, .int .i64 e.op.in_, .int .i64 e.op.code, .int .i64 e.op.sec, .int .i64 e.op.fam, .int .i64 e.op.gen, .int .i64 e.at_, .int .i64 e.place, .int .i64 e.keep]) (t := 29) ?hr ?_; (case hd => rfl); (case hg => rfl); (case hr => first | (go_simp; done) | (go_simp; rfl)); intro B hg w3 hbox hb; have c0 := (blk_cell hbox 0).trans (rfl : _ = some (Value.int .i64 e.kind)); have c1 := (blk_cell hbox 1).trans (rfl : _ = some (Value.int .i64 e.op.kind)); have c2 := (blk_cell hbox 2).trans (rfl : _ = some (Value.int .i64 e.op.who)); have c3 := (blk_cell hbox 3).trans (rfl : _ = some (Value.int .i64 e.op.in_)); have c4 := (blk_cell hbox 4).trans (rfl : _ = some (Value.int .i64 e.op.code)); have c5 := (blk_cell hbox 5).trans (rfl : _ = some (Value.int .i64 e.op.sec)); have c6 := (blk_cell hbox 6).trans (rfl : _ = some (Value.int .i64 e.op.fam)); have c7 := (blk_cell hbox 7).trans (rfl : _ = some (Value.int .i64 e.op.gen)); have c8 := (blk_cell hbox 8).trans (rfl : _ = some (Value.int .i64 e.at_)); have c9 := (blk_cell hbox 9).trans (rfl : _ = some (Value.int .i64 e.place)); have c10 := (blk_cell hbox 10).trans (rfl : _ = some (Value.int .i64 e.keep)); have HX := Lib.hid hbox; have HB := Lib.hid hb; clear hbox hb hg) | (go_at_call 14; refine (l1In_any _ _ _ _).mono ?_; rintro e' w' ⟨rfl, rfl⟩) | (go_at_call 13; refine (HC.out _).mono ?_; rintro e' w' ⟨rfl, hb⟩))
  go_ret
  exact ⟨rfl, below_step HB.out (by assumption)⟩

set_option maxHeartbeats 8000000 in
theorem sDskText_fall (e : Ev) (hk : e.kind = 7) (h0 : InB e.kind 2 7) (h1 : InB e.at_ 0 999) (h2 : InB e.place 0 3) (h3 : InB e.keep 0 999) (w : World) :
    Calls Tryd.prog 5 #[e.val] w fun e' w' => e' = .returned (.string (⟨#[102, 97, 108, 108, 32]⟩ ++ itoaB e.place ++ ⟨#[32]⟩ ++ itoaB e.keep)) ∧ Below w.heap.size w w' := by
  simp only [Ev.val]
  have f0 : inB e.kind 2 7 = true := dec_true h0
  have f1 : inB e.at_ 0 999 = true := dec_true h1
  have f2 : inB e.place 0 3 = true := dec_true h2
  have f3 : inB e.keep 0 999 = true := dec_true h3
  have hk1 : (e.kind == 1) = false := by simp [hk]
  have hk5 : (e.kind == 5) = false := by simp [hk]
  have hk7 : (e.kind == 7) = true := by simp [hk]
  have hz := itoaB_size e.place (by have := h2.1; omega) (by have := h2.2; omega)
  have hz2 := itoaB_size e.keep (by have := h3.1; omega) (by have := h3.2; omega)
  have b1 := h2.1
  have b2 : e.place ≤ 999 := by have := h2.2; omega
  have b3 := h3.1
  have b4 := h3.2
  clear hk h0 h1 h2 h3
  go_enter Tryd.func5, Tryd.ntmps5
  go_wp2_with (first | ((with_reducible refine gate_dst (N := 1) rfl ?_); refine box_event ?hg (N := 1) ?hd (cs := #[.int .i64 e.kind, .int .i64 e.op.kind, .int .i64 e.op.who, .int .i64 e.op.in_, .int .i64 e.op.code, .int .i64 e.op.sec, .int .i64 e.op.fam, .int .i64 e.op.gen, .int .i64 e.at_, .int .i64 e.place, .int .i64 e.keep]) (t := 29) ?hr ?_; (case hd => rfl); (case hg => rfl); (case hr => first | (go_simp; done) | (go_simp; rfl)); intro B hg w3 hbox hb; have c0 := (blk_cell hbox 0).trans (rfl : _ = some (Value.int .i64 e.kind)); have c1 := (blk_cell hbox 1).trans (rfl : _ = some (Value.int .i64 e.op.kind)); have c2 := (blk_cell hbox 2).trans (rfl : _ = some (Value.int .i64 e.op.who)); have c3 := (blk_cell hbox 3).trans (rfl : _ = some (Value.int .i64 e.op.in_)); have c4 := (blk_cell hbox 4).trans (rfl : _ = some (Value.int .i64 e.op.code)); have c5 := (blk_cell hbox 5).trans (rfl : _ = some (Value.int .i64 e.op.sec)); have c6 := (blk_cell hbox 6).trans (rfl : _ = some (Value.int .i64 e.op.fam)); have c7 := (blk_cell hbox 7).trans (rfl : _ = some (Value.int .i64 e.op.gen)); have c8 := (blk_cell hbox 8).trans (rfl : _ = some (Value.int .i64 e.at_)); have c9 := (blk_cell hbox 9).trans (rfl : _ = some (Value.int .i64 e.place)); have c10 := (blk_cell hbox 10).trans (rfl : _ = some (Value.int .i64 e.keep)); have HX := Lib.hid hbox; have HB := Lib.hid hb; clear hbox hb hg) | (go_at_call 14; refine (l1In_any _ _ _ _).mono ?_; rintro e' w' ⟨rfl, rfl⟩))
  have hS0 := And.intro c0 (And.intro c8 (And.intro c9 (And.intro c10 HB.out)))
  have hS1 := keep5 (below_drew1 (Below.refl _ _)) hS0
  clear c1 c2 c3 c4 c5 c6 c7 hS0
  go_region_with (go_at_call 13; refine (l3PlainI_any _ (by assumption) (by assumption) _).mono ?_; rintro e' w' ⟨rfl, hb⟩; have hS2 := keep5 hb (by assumption); have d0 := hS2.1; have d8 := hS2.2.1; have d9 := hS2.2.2.1; have d10 := hS2.2.2.2.1)
  all_goals go_wp2
  all_goals go_ret
  all_goals exact ⟨rfl, keep5_b (by assumption)⟩

end Go.Proofs.YtaeifbmdjjmgkaaDoor
