/- The law FnExactDskText answers true, where strconv's table lies as its text lays it. Conditions: none. -/
import Derived.Test.YtaeifbmdjjmgkaaDoorDskX
import Derived.Test.YtaeifbmdjjmgkaaDoorDskU
import Derived.Test.YtaeifbmdjjmgkaaDoorEvA
namespace Go.Proofs.YtaeifbmdjjmgkaaDoor
open Go.RowKit Go.Proofs.YtaeifbmdjjmgkaaDoorW.PrintWords
set_option linter.unusedVariables false
set_option linter.unusedSimpArgs false
set_option maxRecDepth 100000

set_option maxHeartbeats 4000000 in
theorem law_dskText (e : Ev) (he : ∀ o, -9223372036854775808 ≤ e.fld o ∧ e.fld o ≤ 9223372036854775807) (w : World) (ht : Tab w) :
    Calls Tryd.prog 3 #[e.val] w fun e' w' => e' = .returned (.bool true) ∧ Below w.heap.size w w' := by
  have h1 := fun W => toEv_any e W
  have h2 := fun W => sDskText_any e W
  have h3 := fun W hW => iDskText_any e he W hW
  simp only [Ev.val] at h1 h2 h3
  have H1 := Lib.hid h1
  have H2 := Lib.hid h2
  have H3 := Lib.hid h3
  have HT := Lib.hid ht
  clear h1 h2 h3 ht he
  simp only [Ev.val]
  go_enter Tryd.func3, Tryd.ntmps3
  go_wp2_with (first | ((with_reducible refine gate_dst (N := 1) rfl ?_); refine box_event ?hg (N := 1) ?hd (cs := #[.int .i64 e.kind, .int .i64 e.op.kind, .int .i64 e.op.who, .int .i64 e.op.in_, .int .i64 e.op.code, .int .i64 e.op.sec, .int .i64 e.op.fam, .int .i64 e.op.gen, .int .i64 e.at_, .int .i64 e.place, .int .i64 e.keep]) (t := 25) ?hr ?_; (case hd => rfl); (case hg => rfl); (case hr => first | (go_simp; done) | (go_simp; rfl)); intro B hg w3 hbox hb; have HX := Lib.hid hbox; have HB := Lib.hid hb; clear hbox hb hg; have c0 := (blk_cell HX.out 0).trans (rfl : _ = some (Value.int .i64 e.kind)); have c1 := (blk_cell HX.out 1).trans (rfl : _ = some (Value.int .i64 e.op.kind)); have c2 := (blk_cell HX.out 2).trans (rfl : _ = some (Value.int .i64 e.op.who)); have c3 := (blk_cell HX.out 3).trans (rfl : _ = some (Value.int .i64 e.op.in_)); have c4 := (blk_cell HX.out 4).trans (rfl : _ = some (Value.int .i64 e.op.code)); have c5 := (blk_cell HX.out 5).trans (rfl : _ = some (Value.int .i64 e.op.sec)); have c6 := (blk_cell HX.out 6).trans (rfl : _ = some (Value.int .i64 e.op.fam)); have c7 := (blk_cell HX.out 7).trans (rfl : _ = some (Value.int .i64 e.op.gen)); have c8 := (blk_cell HX.out 8).trans (rfl : _ = some (Value.int .i64 e.at_)); have c9 := (blk_cell HX.out 9).trans (rfl : _ = some (Value.int .i64 e.place)); have c10 := (blk_cell HX.out 10).trans (rfl : _ = some (Value.int .i64 e.keep))) | (go_at_call 6; refine (H1.out _).mono ?_; rintro e' w4 ⟨rfl, hb⟩; have HB4 := Lib.hid (below_step HB.out hb); have HX4 := Lib.hid (blk_below HX.out hb); (try clear c0 c1 c2 c3 c4 c5 c6 c7 c8 c9 c10); clear HB HX hb; have HB := HB4; have HX := HX4; clear HB4 HX4) | (go_at_call 5; refine (H2.out _).mono ?_; rintro e' w4 ⟨rfl, hb⟩; have HB4 := Lib.hid (below_step HB.out hb); have HX4 := Lib.hid (blk_below HX.out hb); clear HB HX hb; have HB := HB4; have HX := HX4; clear HB4 HX4; have c0 := (blk_cell HX.out 0).trans (rfl : _ = some (Value.int .i64 e.kind)); have c1 := (blk_cell HX.out 1).trans (rfl : _ = some (Value.int .i64 e.op.kind)); have c2 := (blk_cell HX.out 2).trans (rfl : _ = some (Value.int .i64 e.op.who)); have c3 := (blk_cell HX.out 3).trans (rfl : _ = some (Value.int .i64 e.op.in_)); have c4 := (blk_cell HX.out 4).trans (rfl : _ = some (Value.int .i64 e.op.code)); have c5 := (blk_cell HX.out 5).trans (rfl : _ = some (Value.int .i64 e.op.sec)); have c6 := (blk_cell HX.out 6).trans (rfl : _ = some (Value.int .i64 e.op.fam)); have c7 := (blk_cell HX.out 7).trans (rfl : _ = some (Value.int .i64 e.op.gen)); have c8 := (blk_cell HX.out 8).trans (rfl : _ = some (Value.int .i64 e.at_)); have c9 := (blk_cell HX.out 9).trans (rfl : _ = some (Value.int .i64 e.place)); have c10 := (blk_cell HX.out 10).trans (rfl : _ = some (Value.int .i64 e.keep))) | (go_at_call 7; refine (H3.out _ (tab_below HT.out HB.out)).mono ?_; rintro e' w4 ⟨rfl, hb⟩; have HB4 := Lib.hid (below_step HB.out hb); clear hb))
  go_ret
  exact ⟨rfl, HB4.out⟩
end Go.Proofs.YtaeifbmdjjmgkaaDoor
