/- What OpOk of the program computes. Conditions: none. -/
import Derived.Test.YtaeifbmdjjmgkaaDoorBase
namespace Go.Proofs.YtaeifbmdjjmgkaaDoor
open Go.RowKit Go.Proofs.YtaeifbmdjjmgkaaDoorW.PrintWords
set_option linter.unusedVariables false
set_option linter.unusedSimpArgs false
set_option maxRecDepth 100000

theorem iIn_any (n lo hi : Int) (w : World) :
    Calls Tryd.prog 16 #[.int .i64 n, .int .i64 lo, .int .i64 hi] w fun e w' => e = .returned (.bool (inB n lo hi)) ∧ w = w' := by
  by_cases h1 : lo ≤ n
  · go_enter Tryd.func16, Tryd.ntmps16
    go_wp2
    go_ret; exact ⟨ret_bool (by
      by_cases h2 : n ≤ hi
      · simp [h2, inB, dec_true (show InB n lo hi from ⟨h1, h2⟩)]
      · simp [h2, inB, dec_false (show ¬ InB n lo hi from fun h => h2 h.2)]), rfl⟩
  · go_enter Tryd.func16, Tryd.ntmps16
    go_wp2
    go_ret; exact ⟨ret_bool (dec_false (fun h : InB n lo hi => absurd h.1 (by omega))).symm, rfl⟩

theorem iNum_any (n : Int) (w : World) :
    Calls Tryd.prog 30 #[.int .i64 n] w fun e w' => e = .returned (.bool (inB n 0 9)) ∧ w = w' := by
  go_enter Tryd.func30, Tryd.ntmps30
  go_wp2_with (go_at_call 16; refine (iIn_any _ _ _ _).mono ?_; rintro e w' ⟨rfl, rfl⟩)
  go_ret; exact ⟨rfl, rfl⟩
theorem iSec_any (n : Int) (w : World) :
    Calls Tryd.prog 31 #[.int .i64 n] w fun e w' => e = .returned (.bool (inB n 0 99)) ∧ w = w' := by
  go_enter Tryd.func31, Tryd.ntmps31
  go_wp2_with (go_at_call 16; refine (iIn_any _ _ _ _).mono ?_; rintro e w' ⟨rfl, rfl⟩)
  go_ret; exact ⟨rfl, rfl⟩
set_option maxHeartbeats 4000000 in
theorem iOpOk_any (o : Op) (w : World) :
    Calls Tryd.prog 17 #[o.val] w fun e w' => e = .returned (.bool (opOkB o)) ∧ Below w.heap.size w w' := by
  obtain ⟨kind, who, in_, code, sec, fam, gen⟩ := o
  simp only [Op.val]
  go_enter Tryd.func17, Tryd.ntmps17
  go_wp2_with (first | (go_at_call 30; refine (iNum_any _ _).mono ?_; rintro e w' ⟨rfl, rfl⟩) | (go_at_call 31; refine (iSec_any _ _).mono ?_; rintro e w' ⟨rfl, rfl⟩))
  all_goals go_ret
  all_goals refine ⟨ret_bool ?_, below_alloc (Below.refl _ _) _⟩
  all_goals go_light
  all_goals (try simp only [Bool.not_eq_true', Bool.not_eq_false', beq_iff_eq, bne_iff_ne, beq_eq_false_iff_ne, inB, dec_iff, dec_iff_false, InB] at *)
  all_goals (symm; first | (refine dec_true ?_; simp only [OpOk, OpForm, InB]; omega) | (refine dec_false ?_; simp only [OpOk, OpForm, InB]; omega))
end Go.Proofs.YtaeifbmdjjmgkaaDoor
