/- The first two places do not see the number; the third grows by one: plain Lean, no program in sight. Conditions: none. -/
import Derived.Test.YtcmjdjomidhdnaaGreatDoorGloK
import Derived.KernelRfl
namespace Go.Proofs.AI
open Go.RowKit Go.Proofs
set_option linter.unusedVariables false
set_option linter.unusedSimpArgs false
set_option maxRecDepth 100000
theorem hit_has {s : Sto} (hs : stoB s = true) {k : ByteArray} (h : ¬ hasV s k = true) : hitS s k = false := by
  cases hh : hitS s k
  · rfl
  · exact absurd (by rw [hasV, hit_get hs, hh]; rfl) h
theorem grow3 {s : Sto} (h : plcB 3 s = true) (hl : s.length < 40) {o : Opr} (ho : opOk o = true) {tx : Int} (ht : 0 ≤ tx ∧ tx ≤ 29) (hok : (planP 3 s tx o).ok = true) :
    (doS s (planP 3 s tx o).writes).length = s.length + 1 := by
  have hw := plan_wrt h ho ht
  have hs := plc_sto h
  simp only [planP, show ¬ (3 : Int) = 1 by decide, show ¬ (3 : Int) = 2 by decide, if_false] at hok hw ⊢
  split at hok
  · cases hok
  · rename_i hn
    rw [if_neg hn] at hw ⊢
    have hwb := hw _ (.head _)
    rw [do_one hs hwb hl]
    simp only [writeI, hit_has hs hn, Bool.false_eq_true, if_false]
    rw [List.length_insertIdx, if_pos (pos_le _ _)]
theorem glo_len3 {l : List Sto} {tx : Int} {o : Opr} (h2 : (gloD l tx o).2 = true) (h13 : stoB (l.getD 2 []) = true → (l.getD 2 []).length ≤ 13) : ((gloD l tx o).1.getD 2 []).length = (l.getD 2 []).length + 1 := by
  obtain ⟨hg, ho, ht⟩ := glo_ok h2
  have hp : (3 : Int) ∈ placesL o := by
    simp only [placesL, ho, if_true]
    repeat' split
    all_goals simp
  obtain ⟨q1, q2⟩ := glo_place hg ho ht h2 hp
  have hplc := glo_plc hg (p := 3) (by decide) (by decide)
  have hl := h13 (plc_sto hplc)
  exact (congrArg List.length q2).trans (grow3 hplc (show (l.getD (3 - 1 : Int).toNat []).length < 40 from Nat.lt_of_le_of_lt hl (by decide)) ho (by simpa [inR] using ht) q1)
theorem glo_two {l : List Sto} {tx tx' : Int} {o : Opr} (h : (gloD l tx o).2 = true) (h' : (gloD l tx' o).2 = true) {x : Nat} (hx : x < 2) : (gloD l tx o).1.getD x [] = (gloD l tx' o).1.getD x [] := by
  obtain ⟨hg, ho, ht⟩ := glo_ok h
  obtain ⟨_, _, ht'⟩ := glo_ok h'
  rw [(glo_is hg ho ht).get, (glo_is hg ho ht').get, h, h']
  have : planP ((x : Int) + 1) (l.getD x []) tx o = planP ((x : Int) + 1) (l.getD x []) tx' o := by
    have : x = 0 ∨ x = 1 := by omega
    rcases this with rfl | rfl <;> simp [planP]
  rw [this]
end Go.Proofs.AI

namespace Go.Proofs.AI
open Go.RowKit Go.Proofs
set_option linter.unusedVariables false
set_option linter.unusedSimpArgs false
set_option maxRecDepth 100000
theorem laws_FnGloTx_ok (l : List Int) (hpre : okU l) : FunOK Tryz.prog 3 1 [] [(0, k1 (sU l))] (· = [(1, kB true)]) := by
  refine fun_to (E := ⟨tab, ctOf [spec_DrawGloDo_c, impl_GloDo_c, spec_GloDo_c, laws_jaStos_c, laws_jaOk_c, laws_jaSto_c], 110, [], [(0, [0]), (1, [0, 15]), (2, [2]), (3, [0, 3, 4, 5]), (4, [0, 3, 4, 5, 6, 7]), (5, [0, 3, 4, 5, 6, 7, 8, 9]), (6, [0, 3, 4, 5, 6, 7, 44]), (7, [2]), (8, [0, 3, 4, 5, 6, 46]), (9, [2]), (10, [3, 4, 5, 6, 10]), (11, [3, 4, 6, 10, 11, 12]), (12, [3, 4, 6, 10, 11, 63]), (13, [2]), (14, [2])], [], [(6, [(1000001, [])]), (14, [(1000021, []), (1000022, []), (1000026, []), (1000035, []), (1000040, [])])], [], []⟩) tab_ok mixed Tryz.func3 rfl Tryz.ntmps3 (rvs := [.tmp 2]) Tryz.results3 rfl fun hl => ?_
  refine cast (show ((decide ((↑l.length : Int) > (1048576 : Int)) = true → true = true) ∧ (decide ((↑l.length : Int) > (1048576 : Int)) = false → ∃ (b : List Int), cnRs (typ (0 : Int) eU l) = cnRs (typ (0 : Int) eU b) ∧ okU b ∧ ∃ (b_1 : List Sto × Int × Opr), (cnRs (frozenRs (typ [] eStoO (drawGlo b).1)) = cnRs (typ [] eStoS b_1.1) ∧ (drawGlo b).2.1 = b_1.2.1 ∧ (drawGlo b).2.2.kind = b_1.2.2.kind ∧ (drawGlo b).2.2.who = b_1.2.2.who ∧ (drawGlo b).2.2.inn = b_1.2.2.inn ∧ (drawGlo b).2.2.code = b_1.2.2.code ∧ (drawGlo b).2.2.sec = b_1.2.2.sec ∧ (drawGlo b).2.2.fam = b_1.2.2.fam ∧ (drawGlo b).2.2.gen = b_1.2.2.gen) ∧ (((∀ (k : Nat), (∀ (k : Nat), True ∧ (∀ (k : Nat), True ∧ True) ∧ True) ∧ True) ∧ True ∧ True) ∧ True) ∧ ∃ (b_2 : List Sto × Int × Opr), (cnRs (frozenRs (typ [] eStoO (drawGlo b).1)) = cnRs (typ [] eStoS b_2.1) ∧ (drawGlo b).2.1 = b_2.2.1 ∧ (drawGlo b).2.2.kind = b_2.2.2.kind ∧ (drawGlo b).2.2.who = b_2.2.2.who ∧ (drawGlo b).2.2.inn = b_2.2.2.inn ∧ (drawGlo b).2.2.code = b_2.2.2.code ∧ (drawGlo b).2.2.sec = b_2.2.2.sec ∧ (drawGlo b).2.2.fam = b_2.2.2.fam ∧ (drawGlo b).2.2.gen = b_2.2.2.gen) ∧ b_2.1.length ≤ (100 : Nat) ∧ (((∀ (k : Nat), (∀ (k : Nat), True ∧ (∀ (k : Nat), True ∧ True) ∧ True) ∧ True) ∧ True ∧ True) ∧ True) ∧ ∃ (b_3 : List Sto × List Sto), (cnRs (frozenRs (typ [] eStoO (gloD b_1.1 b_1.2.1 b_1.2.2).1)) = cnRs (typ [] eStoS b_3.1) ∧ cnRs (frozenRs (typ [] eStoO (gloD b_2.1 b_2.2.1 b_2.2.2).1)) = cnRs (typ [] eStoS b_3.2)) ∧ ((!decide (b_3.1 = b_3.2)) = false → ((if true = true then !(gloD b_1.1 b_1.2.1 b_1.2.2).2 == (gloD b_2.1 b_2.2.1 b_2.2.2).2 else (gloD b_1.1 b_1.2.1 b_1.2.2).2 == (gloD b_2.1 b_2.2.1 b_2.2.2).2) = true → false = true) ∧ ((if true = true then !(gloD b_1.1 b_1.2.1 b_1.2.2).2 == (gloD b_2.1 b_2.2.1 b_2.2.2).2 else (gloD b_1.1 b_1.2.1 b_1.2.2).2 == (gloD b_2.1 b_2.2.1 b_2.2.2).2) = false → ((!(gloD b_1.1 b_1.2.1 b_1.2.2).2) = true → ∃ (b : Unit), True ∧ true = true) ∧ ((!(gloD b_1.1 b_1.2.1 b_1.2.2).2) = false → (20 : Int) ≠ (0 : Int) ∧ (30 : Int) ≠ (0 : Int) ∧ ∃ (b_4 : List Sto × Int × Opr), (cnRs (frozenRs (typ [] eStoO (drawGlo b).1)) = cnRs (typ [] eStoS b_4.1) ∧ (IntKind.i64.wrap (IntKind.i64.wrap ((drawGlo b).2.1 + (1 : Int)) + (↑l.length : Int).tmod (20 : Int))).tmod (30 : Int) = b_4.2.1 ∧ (drawGlo b).2.2.kind = b_4.2.2.kind ∧ (drawGlo b).2.2.who = b_4.2.2.who ∧ (drawGlo b).2.2.inn = b_4.2.2.inn ∧ (drawGlo b).2.2.code = b_4.2.2.code ∧ (drawGlo b).2.2.sec = b_4.2.2.sec ∧ (drawGlo b).2.2.fam = b_4.2.2.fam ∧ (drawGlo b).2.2.gen = b_4.2.2.gen) ∧ (((∀ (k : Nat), (∀ (k : Nat), True ∧ (∀ (k : Nat), True ∧ True) ∧ True) ∧ True) ∧ True ∧ True) ∧ True) ∧ ((!(gloD b_4.1 b_4.2.1 b_4.2.2).2) = true → ((drawGlo b).2.1 != (IntKind.i64.wrap (IntKind.i64.wrap ((drawGlo b).2.1 + (1 : Int)) + (↑l.length : Int).tmod (20 : Int))).tmod (30 : Int)) = true) ∧ ((!(gloD b_4.1 b_4.2.1 b_4.2.2).2) = false → ((0 : Int) ≤ (0 : Int) ∧ (0 : Int) < (↑(gloD b_1.1 b_1.2.1 b_1.2.2).1.length : Int)) ∧ (0 : Nat) < (gloD b_1.1 b_1.2.1 b_1.2.2).1.length ∧ ((0 : Int) ≤ (0 : Int) ∧ (0 : Int) < (↑(gloD b_4.1 b_4.2.1 b_4.2.2).1.length : Int)) ∧ (0 : Nat) < (gloD b_4.1 b_4.2.1 b_4.2.2).1.length ∧ (0 : Nat) < (gloD b_1.1 b_1.2.1 b_1.2.2).1.length ∧ (0 : Nat) < (gloD b_4.1 b_4.2.1 b_4.2.2).1.length ∧ ∃ (b_5 : Sto × Sto), (cnRs (frozenRs (typ dItem eItemO ((gloD b_1.1 b_1.2.1 b_1.2.2).1.getD (0 : Nat) []))) = cnRs (typ dItem eItemS b_5.1) ∧ cnRs (frozenRs (typ dItem eItemO ((gloD b_4.1 b_4.2.1 b_4.2.2).1.getD (0 : Nat) []))) = cnRs (typ dItem eItemS b_5.2)) ∧ (decide (b_5.1 = b_5.2) = true → ((0 : Int) ≤ (1 : Int) ∧ (1 : Int) < (↑(gloD b_1.1 b_1.2.1 b_1.2.2).1.length : Int)) ∧ (1 : Nat) < (gloD b_1.1 b_1.2.1 b_1.2.2).1.length ∧ ((0 : Int) ≤ (1 : Int) ∧ (1 : Int) < (↑(gloD b_4.1 b_4.2.1 b_4.2.2).1.length : Int)) ∧ (1 : Nat) < (gloD b_4.1 b_4.2.1 b_4.2.2).1.length ∧ (1 : Nat) < (gloD b_1.1 b_1.2.1 b_1.2.2).1.length ∧ (1 : Nat) < (gloD b_4.1 b_4.2.1 b_4.2.2).1.length ∧ ∃ (b_6 : Sto × Sto), (cnRs (frozenRs (typ dItem eItemO ((gloD b_1.1 b_1.2.1 b_1.2.2).1.getD (1 : Nat) []))) = cnRs (typ dItem eItemS b_6.1) ∧ cnRs (frozenRs (typ dItem eItemO ((gloD b_4.1 b_4.2.1 b_4.2.2).1.getD (1 : Nat) []))) = cnRs (typ dItem eItemS b_6.2)) ∧ (decide (b_6.1 = b_6.2) = true → ((0 : Int) ≤ (2 : Int) ∧ (2 : Int) < (↑(gloD b_1.1 b_1.2.1 b_1.2.2).1.length : Int)) ∧ (2 : Nat) < (gloD b_1.1 b_1.2.1 b_1.2.2).1.length ∧ (2 : Nat) < (gloD b_1.1 b_1.2.1 b_1.2.2).1.length ∧ ((0 : Int) ≤ (2 : Int) ∧ (2 : Int) < (↑(drawGlo b).1.length : Int)) ∧ (2 : Nat) < (drawGlo b).1.length ∧ (2 : Nat) < (drawGlo b).1.length ∧ (((↑((gloD b_1.1 b_1.2.1 b_1.2.2).1.getD (2 : Nat) []).length : Int) == IntKind.i64.wrap ((↑((drawGlo b).1.getD (2 : Nat) []).length : Int) + (1 : Int))) = true → ((0 : Int) ≤ (2 : Int) ∧ (2 : Int) < (↑(gloD b_4.1 b_4.2.1 b_4.2.2).1.length : Int)) ∧ (2 : Nat) < (gloD b_4.1 b_4.2.1 b_4.2.2).1.length ∧ (2 : Nat) < (gloD b_4.1 b_4.2.1 b_4.2.2).1.length ∧ ((0 : Int) ≤ (2 : Int) ∧ (2 : Int) < (↑(gloD b_1.1 b_1.2.1 b_1.2.2).1.length : Int)) ∧ (2 : Nat) < (gloD b_1.1 b_1.2.1 b_1.2.2).1.length ∧ (2 : Nat) < (gloD b_1.1 b_1.2.1 b_1.2.2).1.length ∧ ((↑((gloD b_4.1 b_4.2.1 b_4.2.2).1.getD (2 : Nat) []).length : Int) == (↑((gloD b_1.1 b_1.2.1 b_1.2.2).1.getD (2 : Nat) []).length : Int)) = true) ∧ (((↑((gloD b_1.1 b_1.2.1 b_1.2.2).1.getD (2 : Nat) []).length : Int) == IntKind.i64.wrap ((↑((drawGlo b).1.getD (2 : Nat) []).length : Int) + (1 : Int))) = false → false = true)) ∧ (decide (b_6.1 = b_6.2) = false → false = true)) ∧ (decide (b_5.1 = b_5.2) = false → false = true))))) ∧ ((!decide (b_3.1 = b_3.2)) = true → false = true))) = _ by kernel_rfl) ?_
  have hlen := draw_len hpre
  have h13 := draw_three hpre
  simp only [cU, eU_iff, Prod.exists, Int.natCast_inj, and_assoc, exists_eq_left', exists_and_left, true_and, and_true, implies_true, and_self, bne_iff_ne, beq_iff_eq, beq_eq_false_iff_ne, ne_eq, forall_eq, Prod.forall, fi_eI, fi_eS, cI, nI_iff, cI_app, cItemO, cItemS, nItemO_iff, nItemS_iff, cWrtO, cWrtS, nWrtO_iff, nWrtS_iff, cStoO, cStoS, nStoO_iff, nStoS_iff, fItemO, fItemS, fWrtO, fWrtS, fStoO, fStoS, fI, frz_app, cWrtO_app, cWrtS_app, cWrtO_1, cItemO_1, opr_ex, zcast, cnRs_raw, cnRs_nil, frz_nil, nil_map, List.map_nil, Int.toNat_natCast, Bool.not_eq_true, Bool.not_eq_false, decide_eq_true_eq, decide_eq_false_iff_not, gt_iff_lt]
  generalize (drawGlo l).1 = L at *
  generalize (drawGlo l).2.1 = tx at *
  generalize (drawGlo l).2.2 = o at *
  generalize hq : (IntKind.i64.wrap (IntKind.i64.wrap (tx + 1) + (↑l.length : Int).tmod 20)).tmod 30 = t'
  refine fun hs => ⟨hpre, by omega, fun _ => ⟨fun h => ?_, fun _ => ⟨fun _ => ⟨(), trivial⟩, fun h => ?_⟩⟩, fun h => ?_⟩
  · simp at h
  rotate_left
  · simp at h
  have h2 : (gloD L tx o).2 = true := by simpa using h
  clear h
  obtain ⟨hg, ho, ht⟩ := glo_ok h2
  have htx : 0 ≤ tx ∧ tx ≤ 29 := by simpa [inR] using ht
  refine ⟨by decide, by decide, fun _ => ?_, fun h => ?_⟩
  · intro e
    have hm : (l.length : Int).tmod 20 = (l.length : Int) % 20 := Int.tmod_eq_emod_of_nonneg (by omega)
    rw [hm, IntWalk.i64_in (tx + 1) (by omega), IntWalk.i64_in (tx + 1 + (l.length : Int) % 20) (by omega), Int.tmod_eq_emod_of_nonneg (by omega)] at hq
    omega
  have h2' : (gloD L t' o).2 = true := by simpa using h
  clear h
  obtain ⟨_, _, ht'⟩ := glo_ok h2'
  have n1 := (glo_is hg ho ht).len
  have n2 := (glo_is hg ho ht').len
  have e0 := glo_two h2 h2' (x := 0) (by decide)
  have e1 := glo_two h2 h2' (x := 1) (by decide)
  have l1 := glo_len3 h2 h13
  have l2 := glo_len3 h2' h13
  generalize gloD L tx o = d at *
  generalize gloD L t' o = d' at *
  refine ⟨by omega, by omega, by omega, by omega, by omega, by omega, by omega, by omega, fun _ => ?_, fun h => absurd e0 h⟩
  have l0 := h13 (plc_sto (glo_plc hg (p := 3) (by decide) (by decide)))
  refine ⟨by omega, by omega, by omega, by omega, by omega, by omega, by omega, by omega, fun _ => ?_, fun h => absurd e1 h⟩
  refine ⟨by omega, by omega, by omega, by omega, by omega, by omega, by omega, by omega, fun _ => ⟨by omega, by omega, by omega, by omega, by omega, by omega, by omega, by omega, by omega⟩, fun h => ?_⟩
  rw [IntWalk.i64_in _ (by omega)] at h
  omega
def laws_FnGloTx_c : Con Tryz.prog := ⟨3, 1, [.lend], [], List Int, some fun b => okU b, fun b => [(0, k1 (sU b))], fun b => [(1, kB true)], [], fun b h => laws_FnGloTx_ok b h⟩
end Go.Proofs.AI
