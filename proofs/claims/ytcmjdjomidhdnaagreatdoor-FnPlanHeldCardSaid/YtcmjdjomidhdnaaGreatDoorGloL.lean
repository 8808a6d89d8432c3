/- What is planned once is refused the second time: plain Lean, no program in sight. Conditions: none. -/
import Derived.Test.YtcmjdjomidhdnaaGreatDoorGloK
import Derived.KernelRfl
import Derived.Test.YtcmjdjomidhdnaaGreatDoorGloJ
namespace Go.Proofs.AI
open Go.RowKit Go.Proofs
set_option linter.unusedVariables false
set_option linter.unusedSimpArgs false
set_option maxRecDepth 100000
theorem glo_false {l : List Sto} {tx : Int} {o : Opr} (hg : gloB l = true) (ho : opOk o = true) {p : Int} (hp : p ∈ placesL o) (h : (planP p (l.getD (p - 1).toNat []) tx o).ok = false) : (gloD l tx o).2 = false := by
  cases ht : inR tx 0 29
  · simp [gloD, ht]
  · rw [(glo_is hg ho ht).two, List.all_eq_false]
    exact ⟨p, hp, by simp only [h]; exact Bool.false_ne_true⟩
theorem glo_place {l : List Sto} {tx : Int} {o : Opr} (hg : gloB l = true) (ho : opOk o = true) (ht : inR tx 0 29 = true) (h2 : (gloD l tx o).2 = true) {p : Int} (hp : p ∈ placesL o) :
    (planP p (l.getD (p - 1).toNat []) tx o).ok = true ∧ (gloD l tx o).1.getD (p - 1).toNat [] = doS (l.getD (p - 1).toNat []) (planP p (l.getD (p - 1).toNat []) tx o).writes := by
  have hI := glo_is hg ho ht
  have hb := places_in o p hp
  have h3 := hI.two
  rw [h2] at h3
  refine ⟨List.all_eq_true.1 h3.symm p hp, ?_⟩
  have e : (((p - 1).toNat : Nat) : Int) + 1 = p := by omega
  rw [hI.get, e, if_pos ⟨h2, List.any_eq_true.2 ⟨p, hp, by simp⟩⟩]
theorem do_one {s : Sto} {w : Wrt} (hs : stoB s = true) (hw : wrtB w = true) (hl : s.length < 40) : doS s [w] = writeI s w := by
  have := writeI_len s w
  rw [doS_cons hs hw hl, doS_nil (write_sto hs hw (by omega))]
theorem do_two {s : Sto} {w u : Wrt} (hs : stoB s = true) (hw : wrtB w = true) (hu : wrtB u = true) (hl : s.length < 39) : doS s [w, u] = writeI (writeI s w) u := by
  have h1 := writeI_len s w
  have h2 := writeI_len (writeI s w) u
  have h3 := write_sto hs hw (by omega)
  rw [doS_cons hs hw (by omega), do_one h3 hu (by omega)]
theorem kd_ne {c d : UInt8} (h : c ≠ d) (m n : Int) : kd c m ≠ kd d n := fun e => h (by
  have : byteAt (kd c m) 0 = byteAt (kd d n) 0 := by rw [e]
  rw [kd_at, kd_at] at this
  exact UInt8.toNat_inj.1 (by omega))
/-- Place 3: the number is taken. -/
theorem once3 {s : Sto} (h : plcB 3 s = true) (hl : s.length < 40) {o : Opr} (ho : opOk o = true) {tx : Int} (ht : 0 ≤ tx ∧ tx ≤ 29) (hok : (planP 3 s tx o).ok = true) :
    (planP 3 (doS s (planP 3 s tx o).writes) tx o).ok = false := by
  have hw := plan_wrt h ho ht
  have e : ∀ s, planP 3 s tx o = if hasV s (⟨#[97]⟩ ++ natS tx.toNat) = true then noP [⟨#[97]⟩ ++ natS tx.toNat] else ⟨true, [⟨#[97]⟩ ++ natS tx.toNat], [⟨⟨#[97]⟩ ++ natS tx.toNat, false, [o.kind]⟩]⟩ := fun s => by
    simp only [planP, show ¬ (3 : Int) = 1 by decide, show ¬ (3 : Int) = 2 by decide, if_false]
  rw [e s] at hok hw ⊢
  split at hok
  · cases hok
  · rename_i hn
    rw [if_neg hn] at hw ⊢
    have hwb := hw _ (.head _)
    rw [do_one (plc_sto h) hwb hl, e, if_pos ?_]
    · rfl
    · simp only [hasV, get_write (plc_sto h), if_true]; rfl
theorem once1 {s : Sto} (h : plcB 1 s = true) {o : Opr} (ho : opOk o = true) {tx tx' : Int} (ht : 0 ≤ tx ∧ tx ≤ 29) (hk : o.kind = 1 ∨ o.kind = 5) (hok : (planP 1 s tx o).ok = true) :
    (planP 1 (doS s (planP 1 s tx o).writes) tx' o).ok = false := by
  have hw := plan_wrt h ho ht
  have hl := plc_len h (.inl rfl)
  rw [if_pos rfl] at hl
  have hs := plc_sto h
  have e : ∀ s tx, planP 1 s tx o = inP s o := fun s tx => by simp only [planP, if_true]
  rw [e] at hok hw
  rw [e, e]
  simp only [inP] at hok hw ⊢
  rcases hk with hk | hk
  · simp only [hk, if_true] at hok hw ⊢
    split at hok
    · cases hok
    · rename_i hn
      rw [if_neg hn] at hw ⊢
      have hwb := hw _ (.head _)
      rw [do_one hs hwb (by omega)]
      rw [if_pos (by simp only [hasV, get_write hs, if_true]; rfl)]
      rfl
  · simp only [hk, show ¬ (5 : Int) = 1 by decide, if_false, if_true] at hok hw ⊢
    split at hok
    · rename_i hn
      rw [if_pos hn] at hw ⊢
      have hwb := hw _ (.head _)
      rw [do_one hs hwb (by omega)]
      rw [if_neg (by simp only [hasV, get_write hs, if_true]; simp)]
      rfl
    · cases hok
theorem once2 {s : Sto} (h : plcB 2 s = true) {o : Opr} (ho : opOk o = true) {tx tx' : Int} (ht : 0 ≤ tx ∧ tx ≤ 29) (hk : o.kind = 2 ∨ o.kind = 3) (hok : (planP 2 s tx o).ok = true) :
    (planP 2 (doS s (planP 2 s tx o).writes) tx' o).ok = false := by
  have hw := plan_wrt h ho ht
  have hl := plc_len h (.inr rfl)
  rw [if_neg (by decide)] at hl
  have hs := plc_sto h
  have e : ∀ s tx, planP 2 s tx o = mayP s o := fun s tx => by simp only [planP, show ¬ (2 : Int) = 1 by decide, if_false, if_true]
  rw [e] at hok hw
  rw [e, e]
  simp only [mayP] at hok hw ⊢
  rcases hk with hk | hk
  · simp only [hk, if_true] at hok hw ⊢
    split at hok
    · cases hok
    · rename_i hn
      rw [if_neg hn] at hw ⊢
      have hwb := hw _ (.head _)
      rw [do_one hs hwb (by omega)]
      rw [if_pos (by simp only [hasV, get_write hs, if_true]; rfl)]
      rfl
  · simp only [hk, show ¬ (3 : Int) = 2 by decide, if_false, if_true, tradeP] at hok hw ⊢
    split at hok
    · rename_i hn
      rw [if_pos hn] at hw ⊢
      have hw1 := hw _ (.head _)
      have hw2 := hw _ (.tail _ (.head _))
      rw [do_two hs hw1 hw2 (by omega)]
      have hlen := writeI_len s ⟨kd 99 o.code, true, []⟩
      have hs1 := write_sto hs hw1 (by omega)
      have hno : hasV (writeI (writeI s ⟨kd 99 o.code, true, []⟩) ⟨kd 102 o.fam, false, [(getV s (kd 99 o.code)).getD 0 0, 1, 1]⟩) (kd 99 o.code) = false := by
        simp only [hasV, get_write hs1, get_write hs, if_true]
        rw [if_neg (kd_ne (by decide) _ _)]
        rfl
      rw [if_neg (by rw [hno]; simp)]
      rfl
    · cases hok
end Go.Proofs.AI

namespace Go.Proofs.AI
open Go.RowKit Go.Proofs
set_option linter.unusedVariables false
set_option linter.unusedSimpArgs false
set_option maxRecDepth 100000
theorem plan3_len (s : Sto) (tx : Int) (o : Opr) : (planP 3 s tx o).writes.length ≤ 1 := by
  simp only [planP, show ¬ (3 : Int) = 1 by decide, show ¬ (3 : Int) = 2 by decide, if_false]
  split <;> simp [noP]
theorem glo_ok {l : List Sto} {tx : Int} {o : Opr} (h : (gloD l tx o).2 = true) : gloB l = true ∧ opOk o = true ∧ inR tx 0 29 = true := by
  simp only [gloD] at h
  split at h
  · rename_i hc; simp only [Bool.and_eq_true] at hc; exact ⟨hc.1.1, hc.1.2, hc.2⟩
  · cases h
theorem glo_grow {l : List Sto} {tx : Int} {o : Opr} (h : (gloD l tx o).2 = true) : ((gloD l tx o).1.getD 2 []).length ≤ (l.getD 2 []).length + 1 := by
  obtain ⟨h1, h2, h3⟩ := glo_ok h
  rw [(glo_is h1 h2 h3).get]
  split
  · have a := doS_len (planP (((2 : Nat) : Int) + 1) (l.getD 2 []) tx o).writes (l.getD 2 [])
    have b := plan3_len (l.getD 2 []) tx o
    simp only [show (((2 : Nat) : Int) + 1) = 3 from rfl] at a ⊢
    omega
  · omega
theorem gloR_three (l : List Int) : ∀ (k : Nat) (s : List Sto) (p : Nat), ((gloR l k s p).1.getD 2 []).length ≤ (s.getD 2 []).length + k
  | 0, s, p => Nat.le_refl _
  | k + 1, s, p => by
    rw [gloR]
    split
    · rename_i h
      have := gloR_three l k (gloD s ((k : Int) + 1) (opB l p 0).1).1 (opB l p 0).2
      have := glo_grow h
      omega
    · have := gloR_three l k s (opB l p 0).2
      omega
theorem stoD_three {l : List Int} {p : Nat} {n : Int} (h : rdB l p 170) (hs : stoB (stoD l p n).1 = true) : (stoD l p n).1.length ≤ 13 := by
  have w1 := wrts_le (l := l) (p := p) 0 (rdB_le h (by omega))
  have w2 := wrts_le (l := l) (p := (wrtsD l p 0).2) 0 (rdB_le h (by omega))
  have hd := doS_len ((wrtsD l p 0).1 ++ (wrtsD l (wrtsD l p 0).2 0).1) []
  rw [List.length_append] at hd
  have hm := (stoB_small hs).1
  simp only [stoD] at hm ⊢
  generalize doS [] ((wrtsD l p 0).1 ++ (wrtsD l (wrtsD l p 0).2 0).1) = t at *
  simp only [List.length_nil] at hd
  split at hm
  · rename_i h1
    rw [if_pos h1]
    split at hm
    · rename_i h2
      rw [if_pos h2]; simp only [List.length_append, List.length_singleton]; omega
    · rename_i h2
      rw [if_neg h2]
      split at hm
      · rename_i h3
        rw [if_pos h3]; simp only [List.length_append, List.length_singleton]; omega
      · simp only [List.length_append, List.length_replicate] at hm; omega
  · rename_i h1
    rw [if_neg h1]; show t.length ≤ 13; omega
theorem draw_three {l : List Int} (h : okU l) (hs : stoB ((drawGlo l).1.getD 2 []) = true) : ((drawGlo l).1.getD 2 []).length ≤ 13 := by
  have hu : okU (l.take 2000) := fun x hx => h x (List.mem_of_mem_take hx)
  have r0 : ∀ p k, p + k ≤ 1000000000 → rdB (l.take 2000) p k := fun p k h => ⟨hu, h⟩
  simp only [drawGlo] at hs ⊢
  generalize l.take 2000 = t at *
  simp only [drawGlo1] at hs ⊢
  have hg := gloI_le (p := 0) (l := t) (r0 _ _ (by omega))
  have hpk := pick_lt (l := t) (p := 0) (k := 1) (n := 14) (r0 _ _ (by omega)) (by decide)
  have h3 : ((gloI t 0).1.getD 2 []).length ≤ 13 := by
    have := gloR_three t (pickB t 0 14).toNat [[], [], []] (0 + 1)
    simp only [gloI]
    simp only [List.getD_cons_succ, List.getD_cons_zero, List.length_nil] at this
    omega
  have ho := odd_le t (gloI t 0).2 16
  split at hs
  · rename_i hq
    rw [if_pos hq]
    by_cases hi : (pickB t (oddB t (gloI t 0).2 16).2 3).toNat = 2
    · simp only [hi] at hs ⊢
      rw [getD_set_eq _ (by omega)] at hs ⊢
      exact stoD_three (r0 _ _ (by omega)) hs
    · simp only at hs ⊢
      rw [getD_set_ne _ (fun e => hi e.symm)]
      exact h3
  · rename_i hq
    rw [if_neg hq]
    exact h3
end Go.Proofs.AI

namespace Go.Proofs.AI
open Go.RowKit Go.Proofs
set_option linter.unusedVariables false
set_option linter.unusedSimpArgs false
set_option maxRecDepth 100000
theorem laws_FnPlanOnce_ok (l : List Int) (hpre : okU l) : FunOK Tryz.prog 4 1 [] [(0, k1 (sU l))] (· = [(1, kB true)]) := by
  refine fun_to (E := ⟨tab, ctOf [spec_DrawGloDo_c, impl_GloDo_c, spec_GloDo_c, laws_jaStos_c, laws_jaOk_c], 73, [], [(0, [0]), (1, [0, 16]), (2, [2]), (3, [3, 4, 5]), (4, [3, 4, 5, 6, 7]), (5, [4, 5, 6, 7, 8, 9]), (6, [4, 5, 6, 7, 45]), (7, [2]), (8, [4, 5, 6, 47]), (9, [2]), (10, [4, 5, 6, 11]), (11, [5, 11, 13]), (12, [5, 11, 65]), (13, [2]), (14, [2])], [], [(5, [(1000000, [])]), (6, [(1000001, [])]), (11, [(1000000, [])])], [], []⟩) tab_ok mixed Tryz.func4 rfl Tryz.ntmps4 (rvs := [.tmp 2]) Tryz.results4 rfl fun hl => ?_
  refine cast (show ((decide ((↑l.length : Int) > (1048576 : Int)) = true → true = true) ∧ (decide ((↑l.length : Int) > (1048576 : Int)) = false → ∃ (b : List Int), cnRs (typ (0 : Int) eU l) = cnRs (typ (0 : Int) eU b) ∧ okU b ∧ ∃ (b_1 : List Sto × Int × Opr), (cnRs (frozenRs (typ [] eStoO (drawGlo b).1)) = cnRs (typ [] eStoS b_1.1) ∧ (drawGlo b).2.1 = b_1.2.1 ∧ (drawGlo b).2.2.kind = b_1.2.2.kind ∧ (drawGlo b).2.2.who = b_1.2.2.who ∧ (drawGlo b).2.2.inn = b_1.2.2.inn ∧ (drawGlo b).2.2.code = b_1.2.2.code ∧ (drawGlo b).2.2.sec = b_1.2.2.sec ∧ (drawGlo b).2.2.fam = b_1.2.2.fam ∧ (drawGlo b).2.2.gen = b_1.2.2.gen) ∧ (((∀ (k : Nat), (∀ (k : Nat), True ∧ (∀ (k : Nat), True ∧ True) ∧ True) ∧ True) ∧ True ∧ True) ∧ True) ∧ ∃ (b_2 : List Sto × Int × Opr), (cnRs (frozenRs (typ [] eStoO (drawGlo b).1)) = cnRs (typ [] eStoS b_2.1) ∧ (drawGlo b).2.1 = b_2.2.1 ∧ (drawGlo b).2.2.kind = b_2.2.2.kind ∧ (drawGlo b).2.2.who = b_2.2.2.who ∧ (drawGlo b).2.2.inn = b_2.2.2.inn ∧ (drawGlo b).2.2.code = b_2.2.2.code ∧ (drawGlo b).2.2.sec = b_2.2.2.sec ∧ (drawGlo b).2.2.fam = b_2.2.2.fam ∧ (drawGlo b).2.2.gen = b_2.2.2.gen) ∧ b_2.1.length ≤ (100 : Nat) ∧ (((∀ (k : Nat), (∀ (k : Nat), True ∧ (∀ (k : Nat), True ∧ True) ∧ True) ∧ True) ∧ True ∧ True) ∧ True) ∧ ∃ (b_3 : List Sto × List Sto), (cnRs (frozenRs (typ [] eStoO (gloD b_1.1 b_1.2.1 b_1.2.2).1)) = cnRs (typ [] eStoS b_3.1) ∧ cnRs (frozenRs (typ [] eStoO (gloD b_2.1 b_2.2.1 b_2.2.2).1)) = cnRs (typ [] eStoS b_3.2)) ∧ ((!decide (b_3.1 = b_3.2)) = false → ((if true = true then !(gloD b_1.1 b_1.2.1 b_1.2.2).2 == (gloD b_2.1 b_2.2.1 b_2.2.2).2 else (gloD b_1.1 b_1.2.1 b_1.2.2).2 == (gloD b_2.1 b_2.2.1 b_2.2.2).2) = true → false = true) ∧ ((if true = true then !(gloD b_1.1 b_1.2.1 b_1.2.2).2 == (gloD b_2.1 b_2.2.1 b_2.2.2).2 else (gloD b_1.1 b_1.2.1 b_1.2.2).2 == (gloD b_2.1 b_2.2.1 b_2.2.2).2) = false → ((!(gloD b_1.1 b_1.2.1 b_1.2.2).2) = true → ∃ (b : Unit), True ∧ true = true) ∧ ((!(gloD b_1.1 b_1.2.1 b_1.2.2).2) = false → (30 : Int) ≠ (0 : Int) ∧ ∃ (b_4 : List Sto × Int × Opr), (cnRs (frozenRs (typ [] eStoO (gloD b_1.1 b_1.2.1 b_1.2.2).1)) = cnRs (typ [] eStoS b_4.1) ∧ (IntKind.i64.wrap ((drawGlo b).2.1 + (1 : Int))).tmod (30 : Int) = b_4.2.1 ∧ (drawGlo b).2.2.kind = b_4.2.2.kind ∧ (drawGlo b).2.2.who = b_4.2.2.who ∧ (drawGlo b).2.2.inn = b_4.2.2.inn ∧ (drawGlo b).2.2.code = b_4.2.2.code ∧ (drawGlo b).2.2.sec = b_4.2.2.sec ∧ (drawGlo b).2.2.fam = b_4.2.2.fam ∧ (drawGlo b).2.2.gen = b_4.2.2.gen) ∧ (((∀ (k : Nat), (∀ (k : Nat), True ∧ (∀ (k : Nat), True ∧ True) ∧ True) ∧ True) ∧ True ∧ True) ∧ True) ∧ ∃ (b_5 : List Sto × Int × Opr), (cnRs (frozenRs (typ [] eStoO (gloD b_1.1 b_1.2.1 b_1.2.2).1)) = cnRs (typ [] eStoS b_5.1) ∧ (drawGlo b).2.1 = b_5.2.1 ∧ (drawGlo b).2.2.kind = b_5.2.2.kind ∧ (drawGlo b).2.2.who = b_5.2.2.who ∧ (drawGlo b).2.2.inn = b_5.2.2.inn ∧ (drawGlo b).2.2.code = b_5.2.2.code ∧ (drawGlo b).2.2.sec = b_5.2.2.sec ∧ (drawGlo b).2.2.fam = b_5.2.2.fam ∧ (drawGlo b).2.2.gen = b_5.2.2.gen) ∧ (((∀ (k : Nat), (∀ (k : Nat), True ∧ (∀ (k : Nat), True ∧ True) ∧ True) ∧ True) ∧ True ∧ True) ∧ True) ∧ ((gloD b_5.1 b_5.2.1 b_5.2.2).2 = true → false = true) ∧ ((gloD b_5.1 b_5.2.1 b_5.2.2).2 = false → (((drawGlo b).2.2.kind == (4 : Int)) = false → (!(gloD b_4.1 b_4.2.1 b_4.2.2).2) = true) ∧ (((drawGlo b).2.2.kind == (4 : Int)) = true → true = true))))) ∧ ((!decide (b_3.1 = b_3.2)) = true → false = true))) = _ by kernel_rfl) ?_
  have hlen := draw_len hpre
  have h13 := draw_three hpre
  simp only [cU, eU_iff, Prod.exists, Int.natCast_inj, and_assoc, exists_eq_left', exists_and_left, true_and, and_true, implies_true, and_self, bne_iff_ne, beq_iff_eq, beq_eq_false_iff_ne, ne_eq, forall_eq, Prod.forall, fi_eI, fi_eS, cI, nI_iff, cI_app, cItemO, cItemS, nItemO_iff, nItemS_iff, cWrtO, cWrtS, nWrtO_iff, nWrtS_iff, cStoO, cStoS, nStoO_iff, nStoS_iff, fItemO, fItemS, fWrtO, fWrtS, fStoO, fStoS, fI, frz_app, cWrtO_app, cWrtS_app, cWrtO_1, cItemO_1, opr_ex, zcast, cnRs_raw, cnRs_nil, frz_nil, nil_map, List.map_nil, Int.toNat_natCast, Bool.not_eq_true, Bool.not_eq_false, decide_eq_true_eq, decide_eq_false_iff_not, gt_iff_lt]
  generalize (drawGlo l).1 = L at *
  generalize (drawGlo l).2.1 = tx at *
  generalize (drawGlo l).2.2 = o at *
  refine fun hs => ⟨hpre, by omega, fun _ => ⟨fun h => ?_, fun _ => ⟨fun _ => ⟨(), trivial⟩, fun h => ?_⟩⟩, fun h => ?_⟩
  · simp at h
  rotate_left
  · simp at h
  have h2 : (gloD L tx o).2 = true := by simpa using h
  clear h
  obtain ⟨hg, ho, ht⟩ := glo_ok h2
  have hI := glo_is hg ho ht
  have htx : 0 ≤ tx ∧ tx ≤ 29 := by simpa [inR] using ht
  have hk := op_kind ho
  refine ⟨by decide, fun h => ?_, fun _ h4 => ?_⟩
  · exfalso
    have hp : (3 : Int) ∈ placesL o := by
      simp only [placesL, ho, if_true]
      repeat' split
      all_goals simp
    obtain ⟨q1, q2⟩ := glo_place hg ho ht h2 hp
    have hplc := glo_plc hg (p := 3) (by decide) (by decide)
    have hl := h13 (plc_sto hplc)
    have := once3 hplc (show (L.getD (3 - 1 : Int).toNat []).length < 40 from Nat.lt_of_le_of_lt hl (by decide)) ho htx q1
    rw [← q2] at this
    have := glo_false hI.ok ho hp this
    rw [this] at h; cases h
  · have hb : (gloD (gloD L tx o).1 ((IntKind.i64.wrap (tx + 1)).tmod 30) o).2 = false := by
      by_cases h15 : o.kind = 1 ∨ o.kind = 5
      · have hp : (1 : Int) ∈ placesL o := by
          simp only [placesL, ho, if_true]
          rcases h15 with h | h <;> simp [h]
        obtain ⟨q1, q2⟩ := glo_place hg ho ht h2 hp
        have := once1 (tx' := (IntKind.i64.wrap (tx + 1)).tmod 30) (glo_plc hg (p := 1) (by decide) (by decide)) ho htx h15 q1
        rw [← q2] at this
        exact glo_false hI.ok ho hp this
      · have h23 : o.kind = 2 ∨ o.kind = 3 := by omega
        have hp : (2 : Int) ∈ placesL o := by
          simp only [placesL, ho, if_true]
          rcases h23 with h | h <;> simp [h]
        obtain ⟨q1, q2⟩ := glo_place hg ho ht h2 hp
        have := once2 (tx' := (IntKind.i64.wrap (tx + 1)).tmod 30) (glo_plc hg (p := 2) (by decide) (by decide)) ho htx h23 q1
        rw [← q2] at this
        exact glo_false hI.ok ho hp this
    rw [hb]; rfl
def laws_FnPlanOnce_c : Con Tryz.prog := ⟨4, 1, [.lend], [], List Int, some fun b => okU b, fun b => [(0, k1 (sU b))], fun b => [(1, kB true)], [], fun b h => laws_FnPlanOnce_ok b h⟩
end Go.Proofs.AI

namespace Go.Proofs.AI
open Go.RowKit Go.Proofs
set_option linter.unusedVariables false
set_option linter.unusedSimpArgs false
set_option maxRecDepth 100000
theorem hit_has {s : Sto} (hs : stoB s = true) {k : ByteArray} (h : ¬ hasV s k = true) : hitS s k = false := by
  cases hh : hitS s k
  · rfl
  · exact absurd (by rw [hasV, hit_get hs, hh]; rfl) h
theorem grow3 {s : Sto} (h : plcB 3 s = true) (hl : s.length < 40) {o : Opr} (ho : opOk o = true) {tx : Int} (ht : 0 ≤ tx ∧ tx ≤ 29) (hok : (planP 3 s tx o).ok = true) :
    (doS s (planP 3 s tx o).writes).length = s.length + 1 := by
  have hw := plan_wrt h ho ht
  have hs := plc_sto h
  simp only [planP, show ¬ (3 : Int) = 1 by decide, show ¬ (3 : Int) = 2 by decide, if_false] at hok hw ⊢
  split at hok
  · cases hok
  · rename_i hn
    rw [if_neg hn] at hw ⊢
    have hwb := hw _ (.head _)
    rw [do_one hs hwb hl]
    simp only [writeI, hit_has hs hn, Bool.false_eq_true, if_false]
    rw [List.length_insertIdx, if_pos (pos_le _ _)]
theorem glo_len3 {l : List Sto} {tx : Int} {o : Opr} (h2 : (gloD l tx o).2 = true) (h13 : stoB (l.getD 2 []) = true → (l.getD 2 []).length ≤ 13) : ((gloD l tx o).1.getD 2 []).length = (l.getD 2 []).length + 1 := by
  obtain ⟨hg, ho, ht⟩ := glo_ok h2
  have hp : (3 : Int) ∈ placesL o := by
    simp only [placesL, ho, if_true]
    repeat' split
    all_goals simp
  obtain ⟨q1, q2⟩ := glo_place hg ho ht h2 hp
  have hplc := glo_plc hg (p := 3) (by decide) (by decide)
  have hl := h13 (plc_sto hplc)
  exact (congrArg List.length q2).trans (grow3 hplc (show (l.getD (3 - 1 : Int).toNat []).length < 40 from Nat.lt_of_le_of_lt hl (by decide)) ho (by simpa [inR] using ht) q1)
theorem glo_two {l : List Sto} {tx tx' : Int} {o : Opr} (h : (gloD l tx o).2 = true) (h' : (gloD l tx' o).2 = true) {x : Nat} (hx : x < 2) : (gloD l tx o).1.getD x [] = (gloD l tx' o).1.getD x [] := by
  obtain ⟨hg, ho, ht⟩ := glo_ok h
  obtain ⟨_, _, ht'⟩ := glo_ok h'
  rw [(glo_is hg ho ht).get, (glo_is hg ho ht').get, h, h']
  have : planP ((x : Int) + 1) (l.getD x []) tx o = planP ((x : Int) + 1) (l.getD x []) tx' o := by
    have : x = 0 ∨ x = 1 := by omega
    rcases this with rfl | rfl <;> simp [planP]
  rw [this]
end Go.Proofs.AI

namespace Go.Proofs.AI
open Go.RowKit Go.Proofs
set_option linter.unusedVariables false
set_option linter.unusedSimpArgs false
set_option maxRecDepth 100000
theorem laws_FnGloTx_ok (l : List Int) (hpre : okU l) : FunOK Tryz.prog 3 1 [] [(0, k1 (sU l))] (· = [(1, kB true)]) := by
  refine fun_to (E := ⟨tab, ctOf [spec_DrawGloDo_c, impl_GloDo_c, spec_GloDo_c, laws_jaStos_c, laws_jaOk_c, laws_jaSto_c], 110, [], [(0, [0]), (1, [0, 15]), (2, [2]), (3, [0, 3, 4, 5]), (4, [0, 3, 4, 5, 6, 7]), (5, [0, 3, 4, 5, 6, 7, 8, 9]), (6, [0, 3, 4, 5, 6, 7, 44]), (7, [2]), (8, [0, 3, 4, 5, 6, 46]), (9, [2]), (10, [3, 4, 5, 6, 10]), (11, [3, 4, 6, 10, 11, 12]), (12, [3, 4, 6, 10, 11, 63]), (13, [2]), (14, [2])], [], [(6, [(1000001, [])]), (14, [(1000021, []), (1000022, []), (1000026, []), (1000035, []), (1000040, [])])], [], []⟩) tab_ok mixed Tryz.func3 rfl Tryz.ntmps3 (rvs := [.tmp 2]) Tryz.results3 rfl fun hl => ?_
  refine cast (show ((decide ((↑l.length : Int) > (1048576 : Int)) = true → true = true) ∧ (decide ((↑l.length : Int) > (1048576 : Int)) = false → ∃ (b : List Int), cnRs (typ (0 : Int) eU l) = cnRs (typ (0 : Int) eU b) ∧ okU b ∧ ∃ (b_1 : List Sto × Int × Opr), (cnRs (frozenRs (typ [] eStoO (drawGlo b).1)) = cnRs (typ [] eStoS b_1.1) ∧ (drawGlo b).2.1 = b_1.2.1 ∧ (drawGlo b).2.2.kind = b_1.2.2.kind ∧ (drawGlo b).2.2.who = b_1.2.2.who ∧ (drawGlo b).2.2.inn = b_1.2.2.inn ∧ (drawGlo b).2.2.code = b_1.2.2.code ∧ (drawGlo b).2.2.sec = b_1.2.2.sec ∧ (drawGlo b).2.2.fam = b_1.2.2.fam ∧ (drawGlo b).2.2.gen = b_1.2.2.gen) ∧ (((∀ (k : Nat), (∀ (k : Nat), True ∧ (∀ (k : Nat), True ∧ True) ∧ True) ∧ True) ∧ True ∧ True) ∧ True) ∧ ∃ (b_2 : List Sto × Int × Opr), (cnRs (frozenRs (typ [] eStoO (drawGlo b).1)) = cnRs (typ [] eStoS b_2.1) ∧ (drawGlo b).2.1 = b_2.2.1 ∧ (drawGlo b).2.2.kind = b_2.2.2.kind ∧ (drawGlo b).2.2.who = b_2.2.2.who ∧ (drawGlo b).2.2.inn = b_2.2.2.inn ∧ (drawGlo b).2.2.code = b_2.2.2.code ∧ (drawGlo b).2.2.sec = b_2.2.2.sec ∧ (drawGlo b).2.2.fam = b_2.2.2.fam ∧ (drawGlo b).2.2.gen = b_2.2.2.gen) ∧ b_2.1.length ≤ (100 : Nat) ∧ (((∀ (k : Nat), (∀ (k : Nat), True ∧ (∀ (k : Nat), True ∧ True) ∧ True) ∧ True) ∧ True ∧ True) ∧ True) ∧ ∃ (b_3 : List Sto × List Sto), (cnRs (frozenRs (typ [] eStoO (gloD b_1.1 b_1.2.1 b_1.2.2).1)) = cnRs (typ [] eStoS b_3.1) ∧ cnRs (frozenRs (typ [] eStoO (gloD b_2.1 b_2.2.1 b_2.2.2).1)) = cnRs (typ [] eStoS b_3.2)) ∧ ((!decide (b_3.1 = b_3.2)) = false → ((if true = true then !(gloD b_1.1 b_1.2.1 b_1.2.2).2 == (gloD b_2.1 b_2.2.1 b_2.2.2).2 else (gloD b_1.1 b_1.2.1 b_1.2.2).2 == (gloD b_2.1 b_2.2.1 b_2.2.2).2) = true → false = true) ∧ ((if true = true then !(gloD b_1.1 b_1.2.1 b_1.2.2).2 == (gloD b_2.1 b_2.2.1 b_2.2.2).2 else (gloD b_1.1 b_1.2.1 b_1.2.2).2 == (gloD b_2.1 b_2.2.1 b_2.2.2).2) = false → ((!(gloD b_1.1 b_1.2.1 b_1.2.2).2) = true → ∃ (b : Unit), True ∧ true = true) ∧ ((!(gloD b_1.1 b_1.2.1 b_1.2.2).2) = false → (20 : Int) ≠ (0 : Int) ∧ (30 : Int) ≠ (0 : Int) ∧ ∃ (b_4 : List Sto × Int × Opr), (cnRs (frozenRs (typ [] eStoO (drawGlo b).1)) = cnRs (typ [] eStoS b_4.1) ∧ (IntKind.i64.wrap (IntKind.i64.wrap ((drawGlo b).2.1 + (1 : Int)) + (↑l.length : Int).tmod (20 : Int))).tmod (30 : Int) = b_4.2.1 ∧ (drawGlo b).2.2.kind = b_4.2.2.kind ∧ (drawGlo b).2.2.who = b_4.2.2.who ∧ (drawGlo b).2.2.inn = b_4.2.2.inn ∧ (drawGlo b).2.2.code = b_4.2.2.code ∧ (drawGlo b).2.2.sec = b_4.2.2.sec ∧ (drawGlo b).2.2.fam = b_4.2.2.fam ∧ (drawGlo b).2.2.gen = b_4.2.2.gen) ∧ (((∀ (k : Nat), (∀ (k : Nat), True ∧ (∀ (k : Nat), True ∧ True) ∧ True) ∧ True) ∧ True ∧ True) ∧ True) ∧ ((!(gloD b_4.1 b_4.2.1 b_4.2.2).2) = true → ((drawGlo b).2.1 != (IntKind.i64.wrap (IntKind.i64.wrap ((drawGlo b).2.1 + (1 : Int)) + (↑l.length : Int).tmod (20 : Int))).tmod (30 : Int)) = true) ∧ ((!(gloD b_4.1 b_4.2.1 b_4.2.2).2) = false → ((0 : Int) ≤ (0 : Int) ∧ (0 : Int) < (↑(gloD b_1.1 b_1.2.1 b_1.2.2).1.length : Int)) ∧ (0 : Nat) < (gloD b_1.1 b_1.2.1 b_1.2.2).1.length ∧ ((0 : Int) ≤ (0 : Int) ∧ (0 : Int) < (↑(gloD b_4.1 b_4.2.1 b_4.2.2).1.length : Int)) ∧ (0 : Nat) < (gloD b_4.1 b_4.2.1 b_4.2.2).1.length ∧ (0 : Nat) < (gloD b_1.1 b_1.2.1 b_1.2.2).1.length ∧ (0 : Nat) < (gloD b_4.1 b_4.2.1 b_4.2.2).1.length ∧ ∃ (b_5 : Sto × Sto), (cnRs (frozenRs (typ dItem eItemO ((gloD b_1.1 b_1.2.1 b_1.2.2).1.getD (0 : Nat) []))) = cnRs (typ dItem eItemS b_5.1) ∧ cnRs (frozenRs (typ dItem eItemO ((gloD b_4.1 b_4.2.1 b_4.2.2).1.getD (0 : Nat) []))) = cnRs (typ dItem eItemS b_5.2)) ∧ (decide (b_5.1 = b_5.2) = true → ((0 : Int) ≤ (1 : Int) ∧ (1 : Int) < (↑(gloD b_1.1 b_1.2.1 b_1.2.2).1.length : Int)) ∧ (1 : Nat) < (gloD b_1.1 b_1.2.1 b_1.2.2).1.length ∧ ((0 : Int) ≤ (1 : Int) ∧ (1 : Int) < (↑(gloD b_4.1 b_4.2.1 b_4.2.2).1.length : Int)) ∧ (1 : Nat) < (gloD b_4.1 b_4.2.1 b_4.2.2).1.length ∧ (1 : Nat) < (gloD b_1.1 b_1.2.1 b_1.2.2).1.length ∧ (1 : Nat) < (gloD b_4.1 b_4.2.1 b_4.2.2).1.length ∧ ∃ (b_6 : Sto × Sto), (cnRs (frozenRs (typ dItem eItemO ((gloD b_1.1 b_1.2.1 b_1.2.2).1.getD (1 : Nat) []))) = cnRs (typ dItem eItemS b_6.1) ∧ cnRs (frozenRs (typ dItem eItemO ((gloD b_4.1 b_4.2.1 b_4.2.2).1.getD (1 : Nat) []))) = cnRs (typ dItem eItemS b_6.2)) ∧ (decide (b_6.1 = b_6.2) = true → ((0 : Int) ≤ (2 : Int) ∧ (2 : Int) < (↑(gloD b_1.1 b_1.2.1 b_1.2.2).1.length : Int)) ∧ (2 : Nat) < (gloD b_1.1 b_1.2.1 b_1.2.2).1.length ∧ (2 : Nat) < (gloD b_1.1 b_1.2.1 b_1.2.2).1.length ∧ ((0 : Int) ≤ (2 : Int) ∧ (2 : Int) < (↑(drawGlo b).1.length : Int)) ∧ (2 : Nat) < (drawGlo b).1.length ∧ (2 : Nat) < (drawGlo b).1.length ∧ (((↑((gloD b_1.1 b_1.2.1 b_1.2.2).1.getD (2 : Nat) []).length : Int) == IntKind.i64.wrap ((↑((drawGlo b).1.getD (2 : Nat) []).length : Int) + (1 : Int))) = true → ((0 : Int) ≤ (2 : Int) ∧ (2 : Int) < (↑(gloD b_4.1 b_4.2.1 b_4.2.2).1.length : Int)) ∧ (2 : Nat) < (gloD b_4.1 b_4.2.1 b_4.2.2).1.length ∧ (2 : Nat) < (gloD b_4.1 b_4.2.1 b_4.2.2).1.length ∧ ((0 : Int) ≤ (2 : Int) ∧ (2 : Int) < (↑(gloD b_1.1 b_1.2.1 b_1.2.2).1.length : Int)) ∧ (2 : Nat) < (gloD b_1.1 b_1.2.1 b_1.2.2).1.length ∧ (2 : Nat) < (gloD b_1.1 b_1.2.1 b_1.2.2).1.length ∧ ((↑((gloD b_4.1 b_4.2.1 b_4.2.2).1.getD (2 : Nat) []).length : Int) == (↑((gloD b_1.1 b_1.2.1 b_1.2.2).1.getD (2 : Nat) []).length : Int)) = true) ∧ (((↑((gloD b_1.1 b_1.2.1 b_1.2.2).1.getD (2 : Nat) []).length : Int) == IntKind.i64.wrap ((↑((drawGlo b).1.getD (2 : Nat) []).length : Int) + (1 : Int))) = false → false = true)) ∧ (decide (b_6.1 = b_6.2) = false → false = true)) ∧ (decide (b_5.1 = b_5.2) = false → false = true))))) ∧ ((!decide (b_3.1 = b_3.2)) = true → false = true))) = _ by kernel_rfl) ?_
  have hlen := draw_len hpre
  have h13 := draw_three hpre
  simp only [cU, eU_iff, Prod.exists, Int.natCast_inj, and_assoc, exists_eq_left', exists_and_left, true_and, and_true, implies_true, and_self, bne_iff_ne, beq_iff_eq, beq_eq_false_iff_ne, ne_eq, forall_eq, Prod.forall, fi_eI, fi_eS, cI, nI_iff, cI_app, cItemO, cItemS, nItemO_iff, nItemS_iff, cWrtO, cWrtS, nWrtO_iff, nWrtS_iff, cStoO, cStoS, nStoO_iff, nStoS_iff, fItemO, fItemS, fWrtO, fWrtS, fStoO, fStoS, fI, frz_app, cWrtO_app, cWrtS_app, cWrtO_1, cItemO_1, opr_ex, zcast, cnRs_raw, cnRs_nil, frz_nil, nil_map, List.map_nil, Int.toNat_natCast, Bool.not_eq_true, Bool.not_eq_false, decide_eq_true_eq, decide_eq_false_iff_not, gt_iff_lt]
  generalize (drawGlo l).1 = L at *
  generalize (drawGlo l).2.1 = tx at *
  generalize (drawGlo l).2.2 = o at *
  generalize hq : (IntKind.i64.wrap (IntKind.i64.wrap (tx + 1) + (↑l.length : Int).tmod 20)).tmod 30 = t'
  refine fun hs => ⟨hpre, by omega, fun _ => ⟨fun h => ?_, fun _ => ⟨fun _ => ⟨(), trivial⟩, fun h => ?_⟩⟩, fun h => ?_⟩
  · simp at h
  rotate_left
  · simp at h
  have h2 : (gloD L tx o).2 = true := by simpa using h
  clear h
  obtain ⟨hg, ho, ht⟩ := glo_ok h2
  have htx : 0 ≤ tx ∧ tx ≤ 29 := by simpa [inR] using ht
  refine ⟨by decide, by decide, fun _ => ?_, fun h => ?_⟩
  · intro e
    have hm : (l.length : Int).tmod 20 = (l.length : Int) % 20 := Int.tmod_eq_emod_of_nonneg (by omega)
    rw [hm, IntWalk.i64_in (tx + 1) (by omega), IntWalk.i64_in (tx + 1 + (l.length : Int) % 20) (by omega), Int.tmod_eq_emod_of_nonneg (by omega)] at hq
    omega
  have h2' : (gloD L t' o).2 = true := by simpa using h
  clear h
  obtain ⟨_, _, ht'⟩ := glo_ok h2'
  have n1 := (glo_is hg ho ht).len
  have n2 := (glo_is hg ho ht').len
  have e0 := glo_two h2 h2' (x := 0) (by decide)
  have e1 := glo_two h2 h2' (x := 1) (by decide)
  have l1 := glo_len3 h2 h13
  have l2 := glo_len3 h2' h13
  generalize gloD L tx o = d at *
  generalize gloD L t' o = d' at *
  refine ⟨by omega, by omega, by omega, by omega, by omega, by omega, by omega, by omega, fun _ => ?_, fun h => absurd e0 h⟩
  have l0 := h13 (plc_sto (glo_plc hg (p := 3) (by decide) (by decide)))
  refine ⟨by omega, by omega, by omega, by omega, by omega, by omega, by omega, by omega, fun _ => ?_, fun h => absurd e1 h⟩
  refine ⟨by omega, by omega, by omega, by omega, by omega, by omega, by omega, by omega, fun _ => ⟨by omega, by omega, by omega, by omega, by omega, by omega, by omega, by omega, by omega⟩, fun h => ?_⟩
  rw [IntWalk.i64_in _ (by omega)] at h
  omega
def laws_FnGloTx_c : Con Tryz.prog := ⟨3, 1, [.lend], [], List Int, some fun b => okU b, fun b => [(0, k1 (sU b))], fun b => [(1, kB true)], [], fun b h => laws_FnGloTx_ok b h⟩
end Go.Proofs.AI
