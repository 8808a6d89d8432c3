/- The laws' copies of an event. Conditions: none. -/
import Derived.Test.YtaeifbmdjjmgkaaDoorDskD
namespace Go.Proofs.YtaeifbmdjjmgkaaDoor
open Go.RowKit Go.Proofs.YtaeifbmdjjmgkaaDoorW.PrintWords
set_option linter.unusedVariables false
set_option linter.unusedSimpArgs false
set_option maxRecDepth 100000

set_option maxHeartbeats 4000000 in
theorem toOp_any (o : Op) (w : World) :
    Calls Tryd.prog 15 #[o.val] w fun e' w' => e' = .returned o.val ∧
      w' = ((w.alloc (.cells #[.int .i64 o.kind, .int .i64 o.who, .int .i64 o.in_, .int .i64 o.code, .int .i64 o.sec, .int .i64 o.fam, .int .i64 o.gen] 23)).alloc (.cells #[.int .i64 o.kind, .int .i64 o.who, .int .i64 o.in_, .int .i64 o.code, .int .i64 o.sec, .int .i64 o.fam, .int .i64 o.gen] 27)).alloc (.cells #[.int .i64 o.kind, .int .i64 o.who, .int .i64 o.in_, .int .i64 o.code, .int .i64 o.sec, .int .i64 o.fam, .int .i64 o.gen] 27) := by
  simp only [Op.val]
  go_enter Tryd.func15, Tryd.ntmps15
  go_wp2
  exact bodyPost_ret (v := .agg #[.int .i64 o.kind, .int .i64 o.who, .int .i64 o.in_, .int .i64 o.code, .int .i64 o.sec, .int .i64 o.fam, .int .i64 o.gen]) (by simp [results, Tryd.results15, go_sem]) rfl ⟨rfl, rfl⟩
set_option maxHeartbeats 8000000 in
theorem toEv_any (e : Ev) (w : World) :
    Calls Tryd.prog 6 #[e.val] w fun e' w' => e' = .returned e.val ∧ Below w.heap.size w w' := by
  have hop := fun W => toOp_any e.op W
  simp only [Op.val] at hop
  have HO := Lib.hid hop
  clear hop
  simp only [Ev.val]
  go_enter Tryd.func6, Tryd.ntmps6
  go_wp2_with (go_at_call 15; refine (HO.out _).mono ?_; rintro e' w' ⟨rfl, rfl⟩)
  refine bodyPost_ret (v := .agg #[.int .i64 e.kind, .int .i64 e.op.kind, .int .i64 e.op.who, .int .i64 e.op.in_, .int .i64 e.op.code, .int .i64 e.op.sec, .int .i64 e.op.fam, .int .i64 e.op.gen, .int .i64 e.at_, .int .i64 e.place, .int .i64 e.keep]) (by simp [results, Tryd.results6, go_sem]) rfl ⟨rfl, ?_⟩
  repeat (first | exact Below.refl _ _ | apply below_alloc | apply pw_below_drewN | apply below_drew1)
end Go.Proofs.YtaeifbmdjjmgkaaDoor
