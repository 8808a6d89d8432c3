/- How much a drawn place keeps: plain Lean, no program in sight. Conditions: none. -/
import Derived.Test.YtcmjdjomidhdnaaGreatDoorGloM
import Derived.Test.YtcmjdjomidhdnaaGreatDoorGloL
import Derived.KernelRfl
namespace Go.Proofs.AI
open Go.RowKit Go.Proofs
set_option linter.unusedVariables false
set_option linter.unusedSimpArgs false
set_option maxRecDepth 100000
theorem gloR_ok (l : List Int) : ∀ (k : Nat) (s : List Sto) (p : Nat), gloB s = true → gloB (gloR l k s p).1 = true
  | 0, s, p, h => h
  | k + 1, s, p, h => by
    rw [gloR]
    split
    · rename_i h2
      obtain ⟨a, b, c⟩ := glo_ok h2
      exact gloR_ok l k _ _ (glo_is a b c).ok
    · exact gloR_ok l k s _ h
theorem gloI_ok (l : List Int) (p : Nat) : gloB (gloI l p).1 = true := gloR_ok l _ _ _ (by
  have : stoB [] = true := by simp [stoB]
  simp [gloB, plcB, inR, formB, this])
theorem gloI_len {l : List Int} {p : Nat} (h : rdB l p 1) (j : Nat) : ((gloI l p).1.getD j []).length ≤ 20 := by
  have hg := gloI_ok l p
  have h3 := gloR_three l (pickB l p 14).toNat [[], [], []] (p + 1)
  have hp := pick_lt (n := 14) h (by omega)
  obtain ⟨g0, g1, g2, g3⟩ := glo_at hg
  rcases Nat.lt_or_ge j 3 with hj | hj
  · have : j = 0 ∨ j = 1 ∨ j = 2 := by omega
    rcases this with rfl | rfl | rfl
    · have := plc_len g1 (.inl rfl); rw [if_pos rfl] at this; omega
    · have := plc_len g2 (.inr rfl); rw [if_neg (by decide)] at this; omega
    · show ((gloR l (pickB l p 14).toNat [[], [], []] (p + 1)).1.getD 2 []).length ≤ 20
      simp at h3 ⊢; omega
  · rw [List.getD_eq_getElem?_getD, List.getElem?_eq_none (by omega)]; simp
theorem drawPlc_len {l : List Int} (h : okU l) (hs : stoB (drawPlc l).2.1 = true) : (drawPlc l).2.1.length ≤ 20 := by
  have hu : okU (l.take 2000) := fun x hx => h x (List.mem_of_mem_take hx)
  have e : drawPlc l = drawPlc1 (l.take 2000) := rfl
  rw [e] at hs ⊢
  generalize l.take 2000 = t at *
  have r0 : ∀ p k, p + k ≤ 1000000000 → rdB t p k := fun p k h => ⟨hu, h⟩
  have g1 := (gloI_le (l := t) (p := 0) (r0 _ _ (by omega))).1
  have ho := op_le (l := t) (p := (gloI t 0).2) 12 (r0 _ _ (by omega))
  have hG := fun j => gloI_len (l := t) (p := 0) (r0 _ _ (by omega)) j
  simp only [drawPlc1, drawPlc2] at hs ⊢
  generalize (opB t (gloI t 0).2 12).2 = p at *
  have q1 := odd_le t (p + 1) 12
  generalize oddB t (p + 1) 12 = q at *
  generalize placesL (opB t (gloI t 0).2 12).1 ++ [1] = pl at *
  obtain ⟨A, hA, hA2⟩ : ∃ A, A = (if q.1 = true then (pickB t q.2 5, q.2 + 1) else (pl.getD (pickB t p pl.length).toNat 0, q.2)) ∧ A.2 ≤ q.2 + 1 := ⟨_, rfl, by split <;> simp⟩
  simp only [← hA] at hs ⊢
  have q2 := odd_le t A.2 12
  generalize oddB t A.2 12 = u at *
  split at hs
  · rename_i hu'
    rw [if_pos hu']
    have := stoD_three (r0 _ _ (by omega)) hs
    omega
  · rename_i hu'
    rw [if_neg hu']
    exact hG _
end Go.Proofs.AI

namespace Go.Proofs.AI
open Go.RowKit Go.Proofs
set_option linter.unusedVariables false
set_option linter.unusedSimpArgs false
set_option maxRecDepth 100000
theorem laws_FnPlanHeld_ok (l : List Int) (m : List Int) (hpre : okU l ∧ okU m) : FunOK Tryz.prog 8 2 [] [(0, k1 (sU l)), (1, k1 (sU m))] (· = [(2, kB true)]) := by
  refine fun_to (E := ⟨tab, ctOf [laws_jaOk_c, laws_jaSto_c, impl_PlcPlan_c, laws_jaHas_c, impl_StoDo_c, spec_DrawPlcPlan_c, laws_jaPlan_c, spec_PlcPlan_c], 111, [], [(0, [0, 1]), (1, [0, 1, 24]), (2, [4]), (3, [1, 5, 6, 7, 8]), (4, [5, 6, 7, 8, 11, 12]), (5, [5, 6, 7, 8, 11, 12, 13]), (6, [5, 6, 7, 8, 11, 12, 13, 51]), (7, [4]), (8, [5, 6, 7, 8, 11, 13, 14]), (9, [5, 6, 7, 8, 13, 14, 69]), (10, [4]), (11, [5, 6, 7, 8, 13, 14, 15]), (12, [5, 6, 7, 8, 13, 14, 15, 75]), (13, [5, 6, 7, 8, 13, 14, 15]), (14, [5, 6, 7, 8, 13, 14, 15, 85]), (15, [4]), (16, [5, 6, 7, 8, 13, 14, 16]), (17, [4])], [(0, ⟨Bool × List ByteArray × List Wrt × Nat, fun x => [(5, ⟨.one, [.c (.n IntKind.i64 ((drawPlc l).fst))], []⟩), (6, ⟨.box, [.c (.sh 75 (typ dItem eItemS (drawPlc l).snd.fst))], []⟩), (7, ⟨.one, [.c (.n IntKind.i64 ((drawPlc l).snd.snd.fst))], []⟩), (8, ⟨.box, [.c (.n IntKind.i64 ((drawPlc l).snd.snd.snd.kind)), .c (.n IntKind.i64 ((drawPlc l).snd.snd.snd.who)), .c (.n IntKind.i64 ((drawPlc l).snd.snd.snd.inn)), .c (.n IntKind.i64 ((drawPlc l).snd.snd.snd.code)), .c (.n IntKind.i64 ((drawPlc l).snd.snd.snd.sec)), .c (.n IntKind.i64 ((drawPlc l).snd.snd.snd.fam)), .c (.n IntKind.i64 ((drawPlc l).snd.snd.snd.gen))], []⟩), (13, ⟨.box, [.c (.b ((planI (drawPlc l).fst (drawPlc l).snd.fst (drawPlc l).snd.snd.fst (drawPlc l).snd.snd.snd).ok)), .c (.ow 9 (typ ByteArray.empty eS (planI (drawPlc l).fst (drawPlc l).snd.fst (drawPlc l).snd.snd.fst (drawPlc l).snd.snd.snd).locks)), .c (.ow 55 (typ dWrt eWrtO (planI (drawPlc l).fst (drawPlc l).snd.fst (drawPlc l).snd.snd.fst (drawPlc l).snd.snd.snd).writes))], []⟩), (14, ⟨.box, [.c (.b (x.1)), .c (oS (x.2.1)), .c (oWrts (x.2.2.1))], []⟩), (15, ⟨.one, [.c (.n IntKind.i64 (x.2.2.2 : Int))], []⟩)]⟩)], [], [], []⟩) tab_ok mixed Tryz.func8 rfl Tryz.ntmps8 (rvs := [.tmp 4]) Tryz.results8 rfl fun hl => ?_
  refine cast (show ((decide ((↑l.length : Int) > (1048576 : Int)) = false → (decide ((↑m.length : Int) > (1048576 : Int)) = true → true = true) ∧ (decide ((↑m.length : Int) > (1048576 : Int)) = false → ∃ (b : List Int), cnRs (typ (0 : Int) eU l) = cnRs (typ (0 : Int) eU b) ∧ okU b ∧ ∃ (b_1 : List Int), cnRs (typ (0 : Int) eU m) = cnRs (typ (0 : Int) eU b_1) ∧ okU b_1 ∧ ∃ (b_2 : Int × Sto × Int × Opr), ((drawPlc b).1 = b_2.1 ∧ cnRs (typ dItem eItemS (drawPlc b).2.1) = cnRs (typ dItem eItemS b_2.2.1) ∧ (drawPlc b).2.2.1 = b_2.2.2.1 ∧ (drawPlc b).2.2.2.kind = b_2.2.2.2.kind ∧ (drawPlc b).2.2.2.who = b_2.2.2.2.who ∧ (drawPlc b).2.2.2.inn = b_2.2.2.2.inn ∧ (drawPlc b).2.2.2.code = b_2.2.2.2.code ∧ (drawPlc b).2.2.2.sec = b_2.2.2.2.sec ∧ (drawPlc b).2.2.2.fam = b_2.2.2.2.fam ∧ (drawPlc b).2.2.2.gen = b_2.2.2.2.gen) ∧ ∃ (b_3 : Int × Sto × Int × Opr), ((drawPlc b).1 = b_3.1 ∧ cnRs (typ dItem eItemS (drawPlc b).2.1) = cnRs (typ dItem eItemS b_3.2.1) ∧ (drawPlc b).2.2.1 = b_3.2.2.1 ∧ (drawPlc b).2.2.2.kind = b_3.2.2.2.kind ∧ (drawPlc b).2.2.2.who = b_3.2.2.2.who ∧ (drawPlc b).2.2.2.inn = b_3.2.2.2.inn ∧ (drawPlc b).2.2.2.code = b_3.2.2.2.code ∧ (drawPlc b).2.2.2.sec = b_3.2.2.2.sec ∧ (drawPlc b).2.2.2.fam = b_3.2.2.2.fam ∧ (drawPlc b).2.2.2.gen = b_3.2.2.2.gen) ∧ ∃ (b_4 : Plan × Plan), (((planI b_2.1 b_2.2.1 b_2.2.2.1 b_2.2.2.2).ok = b_4.1.ok ∧ cnRs (frozenRs (typ ByteArray.empty eS (planI b_2.1 b_2.2.1 b_2.2.2.1 b_2.2.2.2).locks)) = cnRs (typ ByteArray.empty eS b_4.1.locks) ∧ cnRs (frozenRs (typ dWrt eWrtO (planI b_2.1 b_2.2.1 b_2.2.2.1 b_2.2.2.2).writes)) = cnRs (typ dWrt eWrtS b_4.1.writes)) ∧ (planI b_3.1 b_3.2.1 b_3.2.2.1 b_3.2.2.2).ok = b_4.2.ok ∧ cnRs (frozenRs (typ ByteArray.empty eS (planI b_3.1 b_3.2.1 b_3.2.2.1 b_3.2.2.2).locks)) = cnRs (typ ByteArray.empty eS b_4.2.locks) ∧ cnRs (frozenRs (typ dWrt eWrtO (planI b_3.1 b_3.2.1 b_3.2.2.1 b_3.2.2.2).writes)) = cnRs (typ dWrt eWrtS b_4.2.writes)) ∧ ((!(b_4.1.ok == b_4.2.ok && decide (b_4.1.locks = b_4.2.locks) && decide (b_4.1.writes = b_4.2.writes))) = true → false = true) ∧ ((!(b_4.1.ok == b_4.2.ok && decide (b_4.1.locks = b_4.2.locks) && decide (b_4.1.writes = b_4.2.writes))) = false → ∃ (b_5 : Int × Sto × Int × Opr), ((drawPlc b).1 = b_5.1 ∧ cnRs (typ dItem eItemS (drawPlc b).2.1) = cnRs (typ dItem eItemS b_5.2.1) ∧ (drawPlc b_1).2.2.1 = b_5.2.2.1 ∧ (drawPlc b_1).2.2.2.kind = b_5.2.2.2.kind ∧ (drawPlc b_1).2.2.2.who = b_5.2.2.2.who ∧ (drawPlc b_1).2.2.2.inn = b_5.2.2.2.inn ∧ (drawPlc b_1).2.2.2.code = b_5.2.2.2.code ∧ (drawPlc b_1).2.2.2.sec = b_5.2.2.2.sec ∧ (drawPlc b_1).2.2.2.fam = b_5.2.2.2.fam ∧ (drawPlc b_1).2.2.2.gen = b_5.2.2.2.gen) ∧ ((!(planI b_2.1 b_2.2.1 b_2.2.2.1 b_2.2.2.2).ok) = false → ((!(planI b_5.1 b_5.2.1 b_5.2.2.1 b_5.2.2.2).ok) = false → (((drawPlc b).2.2.1 == (drawPlc b_1).2.2.1) = true → ∃ (b : Unit), True ∧ true = true) ∧ (((drawPlc b).2.2.1 == (drawPlc b_1).2.2.1) = false → ∃ (pre : Bool × List ByteArray × List Wrt × Nat → Prop), ∃ (μ : Bool × List ByteArray × List Wrt × Nat → Nat), ∃ (x0 : Bool × List ByteArray × List Wrt × Nat), ((drawPlc b).1 = (drawPlc l).1 ∧ cnRs (typ dItem eItemS (drawPlc b).2.1) = cnRs (typ dItem eItemS (drawPlc l).2.1) ∧ (drawPlc b).2.2.1 = (drawPlc l).2.2.1 ∧ ((drawPlc b).2.2.2.kind = (drawPlc l).2.2.2.kind ∧ (drawPlc b).2.2.2.who = (drawPlc l).2.2.2.who ∧ (drawPlc b).2.2.2.inn = (drawPlc l).2.2.2.inn ∧ (drawPlc b).2.2.2.code = (drawPlc l).2.2.2.code ∧ (drawPlc b).2.2.2.sec = (drawPlc l).2.2.2.sec ∧ (drawPlc b).2.2.2.fam = (drawPlc l).2.2.2.fam ∧ (drawPlc b).2.2.2.gen = (drawPlc l).2.2.2.gen) ∧ ((planI b_2.1 b_2.2.1 b_2.2.2.1 b_2.2.2.2).ok = (planI (drawPlc l).1 (drawPlc l).2.1 (drawPlc l).2.2.1 (drawPlc l).2.2.2).ok ∧ cnRs (typ ByteArray.empty eS (planI b_2.1 b_2.2.1 b_2.2.2.1 b_2.2.2.2).locks) = cnRs (typ ByteArray.empty eS (planI (drawPlc l).1 (drawPlc l).2.1 (drawPlc l).2.2.1 (drawPlc l).2.2.2).locks) ∧ cnRs (typ dWrt eWrtO (planI b_2.1 b_2.2.1 b_2.2.2.1 b_2.2.2.2).writes) = cnRs (typ dWrt eWrtO (planI (drawPlc l).1 (drawPlc l).2.1 (drawPlc l).2.2.1 (drawPlc l).2.2.2).writes)) ∧ ((planI b_5.1 b_5.2.1 b_5.2.2.1 b_5.2.2.2).ok = x0.1 ∧ cnRs (typ ByteArray.empty eS (planI b_5.1 b_5.2.1 b_5.2.2.1 b_5.2.2.2).locks) = cnRs (typ ByteArray.empty eS x0.2.1) ∧ cnRs (typ dWrt eWrtO (planI b_5.1 b_5.2.1 b_5.2.2.1 b_5.2.2.2).writes) = cnRs (typ dWrt eWrtO x0.2.2.1)) ∧ (0 : Int) = (↑x0.2.2.2 : Int)) ∧ pre x0 ∧ ∀ (x : Bool × List ByteArray × List Wrt × Nat), pre x → (decide ((↑x.2.2.2 : Int) < (↑(planI (drawPlc l).1 (drawPlc l).2.1 (drawPlc l).2.2.1 (drawPlc l).2.2.2).locks.length : Int)) = true → ((0 : Int) ≤ (↑x.2.2.2 : Int) ∧ (↑x.2.2.2 : Int) < (↑(planI (drawPlc l).1 (drawPlc l).2.1 (drawPlc l).2.2.1 (drawPlc l).2.2.2).locks.length : Int)) ∧ (↑x.2.2.2 : Int).toNat < (planI (drawPlc l).1 (drawPlc l).2.1 (drawPlc l).2.2.1 (drawPlc l).2.2.2).locks.length ∧ ∃ (b : List ByteArray × ByteArray), (cnRs (frozenRs (typ ByteArray.empty eS x.2.1)) = cnRs (typ ByteArray.empty eS b.1) ∧ (planI (drawPlc l).1 (drawPlc l).2.1 (drawPlc l).2.2.1 (drawPlc l).2.2.2).locks.getD (↑x.2.2.2 : Int).toNat ByteArray.empty = b.2) ∧ ((b.1.any fun (x : ByteArray) => eqB x b.2) = true → true = true) ∧ ((b.1.any fun (x : ByteArray) => eqB x b.2) = false → ∃ (y : Bool × List ByteArray × List Wrt × Nat), ((drawPlc l).1 = (drawPlc l).1 ∧ cnRs (typ dItem eItemS (drawPlc l).2.1) = cnRs (typ dItem eItemS (drawPlc l).2.1) ∧ (drawPlc l).2.2.1 = (drawPlc l).2.2.1 ∧ ((drawPlc l).2.2.2.kind = (drawPlc l).2.2.2.kind ∧ (drawPlc l).2.2.2.who = (drawPlc l).2.2.2.who ∧ (drawPlc l).2.2.2.inn = (drawPlc l).2.2.2.inn ∧ (drawPlc l).2.2.2.code = (drawPlc l).2.2.2.code ∧ (drawPlc l).2.2.2.sec = (drawPlc l).2.2.2.sec ∧ (drawPlc l).2.2.2.fam = (drawPlc l).2.2.2.fam ∧ (drawPlc l).2.2.2.gen = (drawPlc l).2.2.2.gen) ∧ ((planI (drawPlc l).1 (drawPlc l).2.1 (drawPlc l).2.2.1 (drawPlc l).2.2.2).ok = (planI (drawPlc l).1 (drawPlc l).2.1 (drawPlc l).2.2.1 (drawPlc l).2.2.2).ok ∧ cnRs (typ ByteArray.empty eS (planI (drawPlc l).1 (drawPlc l).2.1 (drawPlc l).2.2.1 (drawPlc l).2.2.2).locks) = cnRs (typ ByteArray.empty eS (planI (drawPlc l).1 (drawPlc l).2.1 (drawPlc l).2.2.1 (drawPlc l).2.2.2).locks) ∧ cnRs (typ dWrt eWrtO (planI (drawPlc l).1 (drawPlc l).2.1 (drawPlc l).2.2.1 (drawPlc l).2.2.2).writes) = cnRs (typ dWrt eWrtO (planI (drawPlc l).1 (drawPlc l).2.1 (drawPlc l).2.2.1 (drawPlc l).2.2.2).writes)) ∧ (x.1 = y.1 ∧ cnRs (typ ByteArray.empty eS x.2.1) = cnRs (typ ByteArray.empty eS y.2.1) ∧ cnRs (typ dWrt eWrtO x.2.2.1) = cnRs (typ dWrt eWrtO y.2.2.1)) ∧ IntKind.i64.wrap ((↑x.2.2.2 : Int) + (1 : Int)) = (↑y.2.2.2 : Int)) ∧ pre y ∧ μ y < μ x)) ∧ (decide ((↑x.2.2.2 : Int) < (↑(planI (drawPlc l).1 (drawPlc l).2.1 (drawPlc l).2.2.1 (drawPlc l).2.2.2).locks.length : Int)) = false → ∃ (b : Sto × List Wrt), (cnRs (typ dItem eItemS (drawPlc l).2.1) = cnRs (typ dItem eItemS b.1) ∧ cnRs (frozenRs (typ dWrt eWrtO x.2.2.1)) = cnRs (typ dWrt eWrtS b.2)) ∧ (((∀ (k : Nat), True ∧ (∀ (k : Nat), True ∧ True) ∧ True) ∧ True) ∧ True) ∧ ∃ (b_6 : Int × Sto × Int × Opr), ((drawPlc l).1 = b_6.1 ∧ cnRs (frozenRs (typ dItem eItemO (doS b.1 b.2))) = cnRs (typ dItem eItemS b_6.2.1) ∧ (drawPlc l).2.2.1 = b_6.2.2.1 ∧ (drawPlc l).2.2.2.kind = b_6.2.2.2.kind ∧ (drawPlc l).2.2.2.who = b_6.2.2.2.who ∧ (drawPlc l).2.2.2.inn = b_6.2.2.2.inn ∧ (drawPlc l).2.2.2.code = b_6.2.2.2.code ∧ (drawPlc l).2.2.2.sec = b_6.2.2.2.sec ∧ (drawPlc l).2.2.2.fam = b_6.2.2.2.fam ∧ (drawPlc l).2.2.2.gen = b_6.2.2.2.gen) ∧ ((True ∧ (∀ (k : Nat), True ∧ True) ∧ (∀ (k : Nat), True ∧ True ∧ (∀ (k : Nat), True ∧ True) ∧ True) ∧ True) ∧ True) ∧ ∃ (b_7 : Plan × Plan), (((planI b_6.1 b_6.2.1 b_6.2.2.1 b_6.2.2.2).ok = b_7.1.ok ∧ cnRs (frozenRs (typ ByteArray.empty eS (planI b_6.1 b_6.2.1 b_6.2.2.1 b_6.2.2.2).locks)) = cnRs (typ ByteArray.empty eS b_7.1.locks) ∧ cnRs (frozenRs (typ dWrt eWrtO (planI b_6.1 b_6.2.1 b_6.2.2.1 b_6.2.2.2).writes)) = cnRs (typ dWrt eWrtS b_7.1.writes)) ∧ (planI (drawPlc l).1 (drawPlc l).2.1 (drawPlc l).2.2.1 (drawPlc l).2.2.2).ok = b_7.2.ok ∧ cnRs (frozenRs (typ ByteArray.empty eS (planI (drawPlc l).1 (drawPlc l).2.1 (drawPlc l).2.2.1 (drawPlc l).2.2.2).locks)) = cnRs (typ ByteArray.empty eS b_7.2.locks) ∧ cnRs (frozenRs (typ dWrt eWrtO (planI (drawPlc l).1 (drawPlc l).2.1 (drawPlc l).2.2.1 (drawPlc l).2.2.2).writes)) = cnRs (typ dWrt eWrtS b_7.2.writes)) ∧ ((b_7.1.ok == b_7.2.ok && decide (b_7.1.locks = b_7.2.locks) && decide (b_7.1.writes = b_7.2.writes)) = true → ∃ (b_8 : Sto × List Wrt), (cnRs (frozenRs (typ dItem eItemO (doS b.1 b.2))) = cnRs (typ dItem eItemS b_8.1) ∧ cnRs (frozenRs (typ dWrt eWrtO (planI (drawPlc l).1 (drawPlc l).2.1 (drawPlc l).2.2.1 (drawPlc l).2.2.2).writes)) = cnRs (typ dWrt eWrtS b_8.2)) ∧ (((∀ (k : Nat), True ∧ (∀ (k : Nat), True ∧ True) ∧ True) ∧ True) ∧ True) ∧ ∃ (b : Sto × List Wrt), (cnRs (typ dItem eItemS (drawPlc l).2.1) = cnRs (typ dItem eItemS b.1) ∧ cnRs (frozenRs (typ dWrt eWrtO (planI (drawPlc l).1 (drawPlc l).2.1 (drawPlc l).2.2.1 (drawPlc l).2.2.2).writes)) = cnRs (typ dWrt eWrtS b.2)) ∧ (((∀ (k : Nat), True ∧ (∀ (k : Nat), True ∧ True) ∧ True) ∧ True) ∧ True) ∧ ∃ (b_9 : Sto × List Wrt), (cnRs (frozenRs (typ dItem eItemO (doS b.1 b.2))) = cnRs (typ dItem eItemS b_9.1) ∧ cnRs (frozenRs (typ dWrt eWrtO x.2.2.1)) = cnRs (typ dWrt eWrtS b_9.2)) ∧ (((∀ (k : Nat), True ∧ (∀ (k : Nat), True ∧ True) ∧ True) ∧ True) ∧ True) ∧ ∃ (b : Sto × Sto), (cnRs (frozenRs (typ dItem eItemO (doS b_8.1 b_8.2))) = cnRs (typ dItem eItemS b.1) ∧ cnRs (frozenRs (typ dItem eItemO (doS b_9.1 b_9.2))) = cnRs (typ dItem eItemS b.2)) ∧ decide (b.1 = b.2) = true) ∧ ((b_7.1.ok == b_7.2.ok && decide (b_7.1.locks = b_7.2.locks) && decide (b_7.1.writes = b_7.2.writes)) = false → false = true)))) ∧ ((!(planI b_5.1 b_5.2.1 b_5.2.2.1 b_5.2.2.2).ok) = true → ∃ (b : Unit), True ∧ true = true)) ∧ ((!(planI b_2.1 b_2.2.1 b_2.2.2.1 b_2.2.2.2).ok) = true → ∃ (b : Unit), True ∧ true = true)))) ∧ (decide ((↑l.length : Int) > (1048576 : Int)) = true → true = true)) = _ by kernel_rfl) ?_
  simp only [cU, eU_iff, Prod.exists, Int.natCast_inj, and_assoc, exists_eq_left', exists_and_left, true_and, and_true, implies_true, and_self, bne_iff_ne, beq_iff_eq, beq_eq_false_iff_ne, ne_eq, forall_eq, Prod.forall, fi_eI, fi_eS, cI, nI_iff, cI_app, cItemO, cItemS, nItemO_iff, nItemS_iff, cWrtO, cWrtS, nWrtO_iff, nWrtS_iff, cStoO, cStoS, nStoO_iff, nStoS_iff, fItemO, fItemS, fWrtO, fWrtS, fStoO, fStoS, fI, frz_app, cWrtO_app, cWrtS_app, cWrtO_1, cItemO_1, opr_ex, zcast, cnRs_raw, cnRs_nil, frz_nil, nil_map, List.map_nil, Int.toNat_natCast, Bool.not_eq_true, Bool.not_eq_false, decide_eq_true_eq, decide_eq_false_iff_not, gt_iff_lt, fS, cS_eq, Option.getD_none, Option.getD_some]
  obtain ⟨hu, hu'⟩ := hpre
  have hlen := drawPlc_len hu
  generalize (drawPlc l).1 = p at *
  generalize (drawPlc l).2.1 = s at *
  generalize (drawPlc l).2.2.1 = tx at *
  generalize (drawPlc l).2.2.2 = o at *
  generalize (drawPlc m).2.2.1 = tx' at *
  generalize (drawPlc m).2.2.2 = q at *
  obtain ⟨P, hP⟩ : ∃ P, P = planI p s tx o := ⟨_, rfl⟩
  obtain ⟨R, hR⟩ : ∃ R, R = planI p s tx' q := ⟨_, rfl⟩
  simp only [← hP, ← hR]
  refine fun hs hs' => ⟨hu, hu', P, rfl, rfl, rfl, P, rfl, rfl, rfl, fun h => by simp at h, fun _ => ⟨fun h1 => ⟨fun h2 => ⟨fun _ => ⟨(), trivial⟩, fun h3 => ?_⟩, fun _ => ⟨(), trivial⟩⟩, fun _ => ⟨(), trivial⟩⟩⟩
  have hok : (planI p s tx o).ok = true := by rw [← hP]; simpa using h1
  have hok' : (planI p s tx' q).ok = true := by rw [← hR]; simpa using h2
  obtain ⟨g1, g2, g3, g4, g5, g6⟩ := planI_ok hok
  obtain ⟨_, f2, f3, f4, f5, f6⟩ := planI_ok hok'
  have hll := plan_len p s tx o
  rw [← g6, ← hP] at hll
  have hsl := hlen (plc_sto g1)
  refine ⟨fun x => x.1 = R.ok ∧ x.2.1 = R.locks ∧ x.2.2.1 = R.writes ∧ x.2.2.2 ≤ P.locks.length ∧ ∀ j, j < x.2.2.2 → P.locks.getD j ByteArray.empty ∉ R.locks, ⟨rfl, rfl, rfl, by simp only; omega, fun j hj => absurd hj (Nat.not_lt_zero _)⟩, fun x => P.locks.length - x.2.2.2, fun a1 a2 a3 i hx => ?_⟩
  simp only at hx
  obtain ⟨rfl, rfl, rfl, hi, hj⟩ := hx
  refine ⟨fun hlt => ⟨by omega, hlt, by omega, fun hh => ⟨i + 1, wrapN (by omega), ⟨rfl, rfl, rfl, by simp only; omega, below_succ hj ?_⟩, by simp only; omega⟩⟩, fun hge => ?_⟩
  · exact any_eqB'.1 hh
  have hd : ∀ k ∈ (planP p s tx o).locks, k ∉ (planP p s tx' q).locks := fun k hk => by
    rw [← g6, ← hP] at hk
    rw [← f6, ← hR]
    obtain ⟨j, hj', rfl⟩ := List.getElem_of_mem hk
    have := hj j (by omega)
    rwa [getD_lt hj'] at this
  obtain ⟨a1, a2, a3⟩ := plans_apart g1 g4 f4 g2 f2 g5 f5 (fun _ => by omega) (by rw [← g6]; exact hok) (by rw [← f6]; exact hok') hd
  have hx : planI p (doS s R.writes) tx o = P := by
    have c := plc_do g1 (plan_fits g1 f4 f5 tx')
    rw [hR, f6, hP, g6]
    rw [any_flip] at g3
    simp only [planI, c, show inR tx 0 29 = true by simp [inR]; omega, g3, Bool.and_self, if_true]
    exact a1
  rw [hx]
  refine ⟨P, rfl, rfl, rfl, P, rfl, rfl, rfl, fun _ => ?_, fun h => by simp at h⟩
  rw [hP, hR, g6, f6]
  exact a3
def laws_FnPlanHeld_c : Con Tryz.prog := ⟨8, 2, [.lend, .lend], [], List Int × List Int, some fun b => okU b.1 ∧ okU b.2, fun b => [(0, k1 (sU b.1)), (1, k1 (sU b.2))], fun b => [(2, kB true)], [], fun b h => laws_FnPlanHeld_ok (b.1) (b.2) h⟩
end Go.Proofs.AI
