/- What the reference's functions on numbers compute: in bounds, digits, a number's text, OpOk. Conditions: none. -/
import Derived.Test.YtaeifbmdjjmgkaaDoorBase
import Derived.Lib.ItoaNum
import Derived.Lib.ItoaMem
import Derived.Laws.IdiomStrings
namespace Go.Proofs.YtaeifbmdjjmgkaaDoor
open Go.RowKit Go.Proofs.YtaeifbmdjjmgkaaDoorW.PrintWords
set_option linter.unusedVariables false
set_option linter.unusedSimpArgs false
set_option maxRecDepth 100000

theorem l1In_any (n lo hi : Int) (w : World) :
    Calls Tryd.prog 14 #[.int .i64 n, .int .i64 lo, .int .i64 hi] w fun e w' => e = .returned (.bool (inB n lo hi)) ∧ w = w' := by
  by_cases h1 : lo ≤ n
  · go_enter Tryd.func14, Tryd.ntmps14
    go_wp2
    go_ret; exact ⟨ret_bool (by
      by_cases h2 : n ≤ hi
      · simp [h2, inB, dec_true (show InB n lo hi from ⟨h1, h2⟩)]
      · simp [h2, inB, dec_false (show ¬ InB n lo hi from fun h => h2 h.2)]), rfl⟩
  · go_enter Tryd.func14, Tryd.ntmps14
    go_wp2
    go_ret; exact ⟨ret_bool (dec_false (fun h : InB n lo hi => absurd h.1 (by omega))).symm, rfl⟩

/-- A number's text. -/
def itoaB (n : Int) : ByteArray := ⟨(Lib.itoa n).toArray⟩
def digB (n : Nat) : ByteArray := ⟨#[UInt8.ofNat (48 + n)]⟩
theorem itoaB_dig (n : Nat) (h : n < 10) : itoaB (n : Int) = digB n := by
  unfold itoaB digB
  rw [Lib.itoa_nonneg, Lib.decDigits_one h]
theorem itoaB_step (n : Nat) (h : 10 ≤ n) : itoaB (n : Int) = itoaB ((n / 10 : Nat) : Int) ++ digB (n % 10) := by
  unfold itoaB digB
  rw [Lib.itoa_nonneg, Lib.itoa_nonneg, Lib.decDigits, dif_neg (by omega)]
  ext1
  simp

theorem l3Digit_any (n : Nat) (hn : n < 10) (w : World) :
    Calls Tryd.prog 29 #[.int .i64 n] w fun e w' => e = .returned (.string (digB n)) ∧ Below w.heap.size w w' := by
  have hb : Below w.heap.size w (w.alloc (.cells #[.int .u8 (48 + n)] 5)) := below_alloc (Below.refl _ _) _
  have hcv : (convert 68 9 (.slice (some ⟨w.heap.size, 0, none⟩) 1 1)).run Tryd.prog (w.alloc (.cells #[.int .u8 (48 + n)] 5)) = .ok (.string (digB n)) (w.alloc (.cells #[.int .u8 (48 + n)] 5)) := by
    refine run_convert_bytes_back _ _ _ 5 _ _ [UInt8.ofNat (48 + n)] Tryd.underlying68 Tryd.underlying5 Tryd.underlying9 (fun j hj => ?_)
    obtain rfl : j = 0 := by simpa using hj
    have h1 : (UInt8.ofNat (48 + n)).toNat = 48 + n := by simp [UInt8.toNat_ofNat']; omega
    simp [h1, Addr.add]
    omega
  go_enter Tryd.func29, Tryd.ntmps29
  go_wp2
  go_ret
  exact ⟨rfl, hb⟩

theorem l3DigitI_any (n : Int) (h0 : 0 ≤ n) (hn : n < 10) (w : World) :
    Calls Tryd.prog 29 #[.int .i64 n] w fun e w' => e = .returned (.string (digB n.toNat)) ∧ Below w.heap.size w w' := by
  obtain ⟨m, rfl⟩ := Int.eq_ofNat_of_zero_le h0
  exact l3Digit_any m (by omega) w

set_option maxHeartbeats 2000000 in
theorem l3Plain_any (n : Nat) (hn : n ≤ 4611686018427387904) (w : World) :
    Calls Tryd.prog 13 #[.int .i64 n] w fun e w' => e = .returned (.string (itoaB n)) ∧ Below w.heap.size w w' := by
  go_enter Tryd.func13, Tryd.ntmps13
  go_wp2
  go_loopw [0, 3] (fun v0 v3 wr => ∃ (k : Nat) (s : ByteArray), k ≤ n ∧ v0 = .int .i64 k ∧ v3 = .string s ∧ s.size ≤ n - k ∧ Hid (itoaB k ++ s = itoaB n) ∧ Hid (Below w.heap.size w wr)) (fun v0 _ _ => (intOf v0).toNat)
  case atStart => exact ⟨n, ⟨#[]⟩, by omega, rfl, rfl, Nat.zero_le _, Lib.hid (ByteArray.append_empty), Lib.hid (Below.refl _ _)⟩
  case round =>
    obtain ⟨k, s, hk, rfl, rfl, hs, HE, HB⟩ := hrel
    by_cases h9 : 9 < k
    · have e9 : (9 : Int) < (k : Int) := by omega
      have hd0 : (0 : Int) ≤ (k : Int) % 10 := by omega
      have hd1 : (k : Int) % 10 < 10 := by omega
      have hsz : (digB ((k : Int) % 10).toNat).size = 1 := rfl
      go_wp2_with (go_at_call 29; refine (l3DigitI_any ((k : Int) % 10) hd0 hd1 _).mono ?_; rintro e w' ⟨rfl, hb⟩)
      go_roundw
      case rel => exact ⟨k / 10, digB ((k : Int) % 10).toNat ++ s, by omega, by go_num, rfl, by rw [ByteArray.size_append, hsz]; omega, Lib.hid (by rw [show ((k : Int) % 10).toNat = k % 10 by omega, ← ByteArray.append_assoc, ← itoaB_step k (by omega)]; exact HE.out), Lib.hid (below_step HB.out (by assumption))⟩
      case measure => simp [intOf]; omega
    · have e9 : ¬ (9 : Int) < (k : Int) := by omega
      have e10 : (k : Int) < 10 := by omega
      have e11 : (0 : Int) ≤ (k : Int) := by omega
      have hsz : (digB k).size = 1 := rfl
      go_wp2_with (go_at_call 29; refine (l3DigitI_any (k : Int) e11 e10 _).mono ?_; rintro e w' ⟨rfl, hb⟩)
      go_ret
      exact ⟨ret_str (by rw [← itoaB_dig k (by omega)]; exact HE.out), below_step HB.out (by assumption)⟩

set_option maxHeartbeats 4000000 in
theorem opOk_any (o : Op) (w : World) :
    Calls Tryd.prog 11 #[o.val] w fun e w' => e = .returned (.bool (opOkB o)) ∧ Below w.heap.size w w' := by
  obtain ⟨kind, who, in_, code, sec, fam, gen⟩ := o
  simp only [Op.val]
  go_enter Tryd.func11, Tryd.ntmps11
  go_wp2_with (go_at_call 14; refine (l1In_any _ _ _ _).mono ?_; rintro e w' ⟨rfl, rfl⟩)
  all_goals go_ret
  all_goals refine ⟨ret_bool ?_, below_alloc (Below.refl _ _) _⟩
  all_goals go_light
  all_goals (try simp only [Bool.not_eq_true', Bool.not_eq_false', beq_iff_eq, bne_iff_ne, beq_eq_false_iff_ne, inB, dec_iff, dec_iff_false, InB] at *)
  all_goals (symm; first | (refine dec_true ?_; simp only [OpOk, OpForm, InB]; omega) | (refine dec_false ?_; simp only [OpOk, OpForm, InB]; omega) | (rw [Bool.eq_iff_iff]; simp only [opOkB, dec_iff, beq_iff_eq, OpOk, OpForm, InB]; omega))
end Go.Proofs.YtaeifbmdjjmgkaaDoor
