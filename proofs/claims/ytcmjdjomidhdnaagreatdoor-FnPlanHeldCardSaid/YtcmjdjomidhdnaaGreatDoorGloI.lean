/- Facts of plans and of the whole: plain Lean, no program in sight. Conditions: none. -/
import Derived.KernelRfl
import Derived.Test.YtcmjdjomidhdnaaGreatDoorGloH
namespace Go.Proofs.AI
open Go.RowKit Go.Proofs
set_option linter.unusedVariables false
set_option linter.unusedSimpArgs false
set_option maxRecDepth 100000
theorem getD_set_ne {α : Type} (l : List α) {i j : Nat} (h : j ≠ i) (x d : α) : (l.set i x).getD j d = l.getD j d := by
  simp only [List.getD_eq_getElem?_getD, List.getElem?_set_ne (Ne.symm h)]
theorem cItemSet (s : List Item) (k : Nat) (v : List Int) (hk : k < s.length) : cnRs (setF (typ dItem eItemO s) k 1 (.ow tI (typ 0 eI v))) = (s.set k ⟨(s.getD k dItem).key, v⟩).map nItemO := by
  rw [cnRs_setF, cItemO]
  apply List.ext_getElem?
  intro i
  simp only [List.getElem?_modify, List.getElem?_map, List.getElem?_set]
  by_cases h : k = i
  · subst h
    simp [hk, nItemO, cI]
  · cases s[i]? <;> simp [h]
theorem wrt_val {w : Wrt} (h : wrtB w = true) (hd : w.del = false) : 0 < w.val.length ∧ w.val.length ≤ 1000 := by
  simp only [wrtB, hd, cond_false, Bool.and_eq_true] at h
  have := h.2
  simp [valB, inR] at this
  omega
theorem doL_bad : ∀ {ws : List Wrt} {s : Sto}, (ws.any fun w => !wrtB w) = true → doL s ws = []
  | [], _, h => by simp at h
  | w :: ws, s, h => by
    rw [doL]
    cases hw : wrtB w
    · rfl
    · cases hd : decide (40 < (writeS s w).length)
      · simp only [Bool.not_true, cond_false]
        refine doL_bad ?_
        simpa [hw] using h
      · rfl
theorem impl_GloOk_ok (l : List Sto) : FunOK Tryz.prog 21 1 [] [(0, k1 (sStos l))] (· = [(1, kB (gloB l))]) := by
  refine fun_to (E := ⟨tab, ctOf [impl_PlcOk_c], 21, [], [(0, [0]), (1, [0, 5, 6, 7]), (2, [0, 5, 6, 7, 8]), (3, [0, 3, 4, 5, 6, 7]), (4, [0, 5, 6, 7, 16]), (5, [2]), (6, [0, 5, 6, 7]), (7, [2])], [(0, ⟨Nat, fun x => [(0, ⟨.one, [.c (.sh 35 (typ [] eStoS l))], []⟩), (5, ⟨.one, [.c (.sh 35 (typ [] eStoS l))], []⟩), (6, ⟨.one, [.c (.n IntKind.i64 ((↑l.length : Int)))], []⟩), (7, ⟨.one, [.c (.n IntKind.i64 (x : Int))], []⟩)]⟩)], [], [], []⟩) tab_ok mixed Tryz.func21 rfl Tryz.ntmps21 (rvs := [.tmp 2]) Tryz.results21 rfl fun hl => ?_
  refine cast (show (∃ (pre : Nat → Prop), ∃ (μ : Nat → Nat), ∃ (x0 : Nat), (cnRs (typ [] eStoS l) = cnRs (typ [] eStoS l) ∧ cnRs (typ [] eStoS l) = cnRs (typ [] eStoS l) ∧ (↑l.length : Int) = (↑l.length : Int) ∧ (0 : Int) = (↑x0 : Int)) ∧ pre x0 ∧ ∀ (x : Nat), pre x → (decide ((↑x : Int) < (↑l.length : Int)) = true → ((0 : Int) ≤ (↑x : Int) ∧ (↑x : Int) < (↑l.length : Int)) ∧ ∃ (b : Int × Sto), (IntKind.i64.wrap ((↑x : Int) + (1 : Int)) = b.1 ∧ cnRs (typ dItem eItemS (l.getD (↑x : Int).toNat [])) = cnRs (typ dItem eItemS b.2)) ∧ ((!plcB b.1 b.2) = true → false = gloB l) ∧ ((!plcB b.1 b.2) = false → ∃ (y : Nat), (cnRs (typ [] eStoS l) = cnRs (typ [] eStoS l) ∧ cnRs (typ [] eStoS l) = cnRs (typ [] eStoS l) ∧ (↑l.length : Int) = (↑l.length : Int) ∧ IntKind.i64.wrap ((↑x : Int) + (1 : Int)) = (↑y : Int)) ∧ pre y ∧ μ y < μ x)) ∧ (decide ((↑x : Int) < (↑l.length : Int)) = false → ((↑l.length : Int) == (3 : Int)) = gloB l)) = _ by kernel_rfl) ?_
  have hx : l.length ≤ 9223372036854775807 := hl.1 _ (List.mem_singleton.2 rfl)
  simp only [cU, eU_iff, Prod.exists, Int.natCast_inj, and_assoc, exists_eq_left', exists_and_left, true_and, and_true, implies_true, and_self, bne_iff_ne, beq_iff_eq, beq_eq_false_iff_ne, ne_eq, forall_eq, Prod.forall, fi_eI, fi_eS, cI, nI_iff, cI_app, cItemO, cItemS, nItemO_iff, nItemS_iff, cWrtO, cWrtS, nWrtO_iff, nWrtS_iff, cStoO, cStoS, nStoO_iff, nStoS_iff, fItemO, fItemS, fWrtO, fWrtS, fStoO, fStoS, fI, frz_app, cWrtO_app, cWrtS_app, cWrtO_1, cItemO_1, opr_ex, zcast, cnRs_raw, cnRs_nil, frz_nil, nil_map, List.map_nil, Int.toNat_natCast, Bool.not_eq_true, Bool.not_eq_false, decide_eq_true_eq, decide_eq_false_iff_not, gt_iff_lt]
  refine ⟨fun i => i ≤ l.length ∧ i ≤ 3 ∧ ∀ j, j < i → plcB ((j : Int) + 1) (l.getD j []) = true, ⟨by simp, by omega, by simp⟩, fun i => l.length - i, fun i hp => ?_⟩
  obtain ⟨h1, h2, h3⟩ := hp
  refine ⟨fun hlt => ⟨by omega, hlt, fun a => ?_, fun a => ⟨i + 1, wrapN (by omega), ⟨by omega, ?_, below_succ h3 ?_⟩, by simp only; omega⟩⟩, fun hge => ?_⟩
  · rw [IntWalk.i64_in _ (by omega)] at a
    have a : plcB ((i : Int) + 1) (l.getD i []) = false := by simpa using a
    have hx : i = 0 ∨ i = 1 ∨ i = 2 ∨ i = 3 := by omega
    rcases hx with rfl | rfl | rfl | rfl
    · simp only [gloB, show plcB 1 (l.getD 0 []) = false from a, Bool.and_false, Bool.false_and]
    · simp only [gloB, show plcB 2 (l.getD 1 []) = false from a, Bool.and_false, Bool.false_and]
    · simp only [gloB, show plcB 3 (l.getD 2 []) = false from a, Bool.and_false]
    · have : (l.length == 3) = false := by simp; omega
      simp only [gloB, this, Bool.false_and]
  · rw [IntWalk.i64_in _ (by omega)] at a
    have a : plcB ((i : Int) + 1) (l.getD i []) = true := by simpa using a
    simp only [plcB, Bool.and_eq_true, inR, decide_eq_true_eq] at a
    omega
  · rw [IntWalk.i64_in _ (by omega)] at a
    simpa using a
  · have : i = l.length := by omega
    subst this
    by_cases h4 : l.length = 3
    · have a := h3 0 (by omega); have b := h3 1 (by omega); have c := h3 2 (by omega)
      simp only [gloB, h4, beq_self_eq_true, Bool.true_and]
      simp only [show ((0 : Nat) : Int) + 1 = 1 from rfl, show ((1 : Nat) : Int) + 1 = 2 from rfl, show ((2 : Nat) : Int) + 1 = 3 from rfl] at a b c
      rw [a, b, c]; rfl
    · have h5 : (l.length == 3) = false := by simpa using h4
      have h6 : ((l.length : Int) == 3) = false := by simp; omega
      simp only [gloB, h5, h6, Bool.false_and]
def impl_GloOk_c : Con Tryz.prog := ⟨21, 1, [.lend], [], List Sto, none, fun b => [(0, k1 (sStos b))], fun b => [(1, kB (gloB b))], [], fun b h => impl_GloOk_ok b⟩
theorem StoCopied_ok (s : Sto) (hpre : stoB s = true) : FunOK Tryz.prog 43 1 [] [(0, kSto s)] (· = [(1, ⟨.agg, [.c (oItems s)], []⟩)]) := by
  refine fun_to (E := ⟨tab, ctOf [slices_Clone_int_c], 26, [], [(0, [1, 2, 3, 25]), (1, [1, 2, 3, 25]), (2, [1, 2, 3, 6, 7, 8, 9, 25]), (3, [1, 2, 3, 6, 7, 8, 9, 10, 25]), (4, [1, 2, 3, 5, 6, 7, 8, 9, 25]), (5, [1, 2, 3, 6, 7, 8, 9, 25]), (6, [1, 2, 3, 6, 7, 8, 9, 25]), (7, [2, 3, 25])], [(0, ⟨List Item × Nat, fun x => [(1, ⟨.box, [.c (.sh 75 (typ dItem eItemS s))], []⟩), (2, ⟨.box, [.c (.ow 75 nilR)], []⟩), (3, ⟨.box, [.c (oItems (x.1))], []⟩), (6, ⟨.one, [SC.pr (1 : Nat) (0 : Nat) (0 : Nat)], []⟩), (7, ⟨.one, [.c (.sh 75 (typ dItem eItemS s))], []⟩), (8, ⟨.one, [.c (.n IntKind.i64 ((↑(List.length s) : Int)))], []⟩), (9, ⟨.one, [.c (.n IntKind.i64 (x.2 : Int))], []⟩)]⟩)], [], [], []⟩) tab_ok mixed Tryz.func43 rfl Tryz.ntmps43 (rvs := [.cell 2 35]) Tryz.results43 rfl fun hl => ?_
  refine cast (show (∃ (pre : List Item × Nat → Prop), ∃ (μ : List Item × Nat → Nat), ∃ (x0 : List Item × Nat), (cnRs (typ dItem eItemS s) = cnRs (typ dItem eItemS s) ∧ cnRs nilR = cnRs nilR ∧ cnRs nilR = cnRs (typ dItem eItemO x0.1) ∧ ((1 : Nat) = (1 : Nat) ∧ (0 : Nat) = (0 : Nat) ∧ true = true) ∧ cnRs (typ dItem eItemS s) = cnRs (typ dItem eItemS s) ∧ (↑(List.length s) : Int) = (↑(List.length s) : Int) ∧ (0 : Int) = (↑x0.2 : Int)) ∧ pre x0 ∧ ∀ (x : List Item × Nat), pre x → (decide ((↑x.2 : Int) < (↑(List.length s) : Int)) = true → ((0 : Int) ≤ (↑x.2 : Int) ∧ (↑x.2 : Int) < (↑(List.length s) : Int)) ∧ ∃ (b : List Int), cnRs (typ (0 : Int) eI (List.getD s (↑x.2 : Int).toNat dItem).val) = cnRs (typ (0 : Int) eI b) ∧ ((0 : Nat) < b.length ∧ b.length ≤ (1000 : Nat)) ∧ (x.1.length + (1 : Nat)) * (40 : Nat) ≤ (140737488355328 : Nat) ∧ ∃ (y : List Item × Nat), (cnRs (typ dItem eItemS s) = cnRs (typ dItem eItemS s) ∧ cnRs nilR = cnRs nilR ∧ cnRs (appR (typ dItem eItemO x.1) (raw [[CV.s (List.getD s (↑x.2 : Int).toNat dItem).key, CV.ow (3 : Nat) (typ (0 : Int) eI b)]])) = cnRs (typ dItem eItemO y.1) ∧ ((1 : Nat) = (1 : Nat) ∧ (0 : Nat) = (0 : Nat) ∧ true = true) ∧ cnRs (typ dItem eItemS s) = cnRs (typ dItem eItemS s) ∧ (↑(List.length s) : Int) = (↑(List.length s) : Int) ∧ IntKind.i64.wrap ((↑x.2 : Int) + (1 : Int)) = (↑y.2 : Int)) ∧ pre y ∧ μ y < μ x) ∧ (decide ((↑x.2 : Int) < (↑(List.length s) : Int)) = false → cnRs (typ dItem eItemO x.1) = cnRs (typ dItem eItemO s))) = _ by kernel_rfl) ?_
  simp only [cU, eU_iff, Prod.exists, Int.natCast_inj, and_assoc, exists_eq_left', exists_and_left, true_and, and_true, implies_true, and_self, bne_iff_ne, beq_iff_eq, beq_eq_false_iff_ne, ne_eq, forall_eq, Prod.forall, fi_eI, fi_eS, cI, nI_iff, cI_app, cItemO, cItemS, nItemO_iff, nItemS_iff, cWrtO, cWrtS, nWrtO_iff, nWrtS_iff, cStoO, cStoS, nStoO_iff, nStoS_iff, fItemO, fItemS, fWrtO, fWrtS, fStoO, fStoS, fI, frz_app, cWrtO_app, cWrtS_app, cWrtO_1, cItemO_1, opr_ex, zcast, cnRs_raw, cnRs_nil, frz_nil, nil_map, List.map_nil, Int.toNat_natCast, Bool.not_eq_true, Bool.not_eq_false, decide_eq_true_eq, decide_eq_false_iff_not, gt_iff_lt]
  have hx : s.length ≤ 40 := (stoB_small hpre).1
  refine ⟨fun x => x.2 ≤ s.length ∧ x.1 = s.take x.2, ⟨by simp, by simp⟩, fun x => s.length - x.2, fun a b hp => ?_⟩
  obtain ⟨h1, h2⟩ := hp
  simp only at h1 h2
  refine ⟨fun hlt => ?_, fun hge => ?_⟩
  · have hlt : b < s.length := by omega
    have hm : s.getD b dItem ∈ s := by rw [getD_lt hlt]; exact List.getElem_mem hlt
    have hv := sto_val hpre hm
    have hl : a.length = b := by rw [h2, List.length_take]; omega
    refine ⟨by omega, by omega, by omega, by omega, by omega, b + 1, wrapN (by omega), ⟨by simp only; omega, ?_⟩, by simp only; omega⟩
    simp only [h2]
    exact (take_succ hlt).symm
  · have : b = s.length := by omega
    rw [h2, this, List.take_length]
def StoCopied_c : Con Tryz.prog := ⟨43, 1, [.lend], [], Sto, some fun b => stoB b = true, fun b => [(0, kSto b)], fun b => [(1, ⟨.agg, [.c (oItems b)], []⟩)], [], fun b h => StoCopied_ok b h⟩
theorem WrtBad_ok (w : Wrt) : FunOK Tryz.prog 59 1 [] [(0, kWrt w)] (· = [(1, kB (!wrtB w))]) := by
  refine fun_to (E := ⟨tab, ctOf [impl_WrtOk_c], 6, [], [(0, [1]), (1, [2])], [], [], [], []⟩) tab_ok mixed Tryz.func59 rfl Tryz.ntmps59 (rvs := [.tmp 2]) Tryz.results59 rfl fun hl => ?_
  refine cast (show (∃ (b : Wrt), (w.key = b.key ∧ w.del = b.del ∧ cnRs (typ (0 : Int) eI w.val) = cnRs (typ (0 : Int) eI b.val)) ∧ (!wrtB b) = !wrtB w) = _ by kernel_rfl) ?_
  simp only [cU, eU_iff, Prod.exists, Int.natCast_inj, and_assoc, exists_eq_left', exists_and_left, true_and, and_true, implies_true, and_self, bne_iff_ne, beq_iff_eq, beq_eq_false_iff_ne, ne_eq, forall_eq, Prod.forall, fi_eI, fi_eS, cI, nI_iff, cI_app, cItemO, cItemS, nItemO_iff, nItemS_iff, cWrtO, cWrtS, nWrtO_iff, nWrtS_iff, cStoO, cStoS, nStoO_iff, nStoS_iff, fItemO, fItemS, fWrtO, fWrtS, fStoO, fStoS, fI, frz_app, cWrtO_app, cWrtS_app, cWrtO_1, cItemO_1, opr_ex, zcast, cnRs_raw, cnRs_nil, frz_nil, nil_map, List.map_nil, Int.toNat_natCast, Bool.not_eq_true, Bool.not_eq_false, decide_eq_true_eq, decide_eq_false_iff_not, gt_iff_lt]
  exact ⟨w, rfl, rfl, rfl, rfl⟩
def WrtBad_c : Con Tryz.prog := ⟨59, 1, [.lend], [], Wrt, none, fun b => [(0, kWrt b)], fun b => [(1, kB (!wrtB b))], [], fun b h => WrtBad_ok b⟩
theorem IndexWrt_ok (ws : List Wrt) : FunOK Tryz.prog 95 2 [] [(0, k1 (sWrts ws)), (1, kF 59)] (· = [(2, kI (idxOf (fun w => !wrtB w) ws))]) := by
  refine fun_to (E := ⟨tab, ctOf [WrtBad_c], 19, [], [(0, [0, 1]), (1, [0, 1, 7, 8]), (2, [0, 1, 7, 8, 9]), (3, [0, 1, 5, 7, 8]), (4, [0, 1, 5, 7, 8, 16]), (5, [4]), (6, [0, 1, 7, 8]), (7, [4])], [(0, ⟨Nat, fun x => [(0, ⟨.one, [.c (.sh 55 (typ dWrt eWrtS ws))], []⟩), (1, ⟨.one, [.c (.vl (Value.func (Fn.func (59 : FuncId)) { toList := [] } { toList := [] }))], []⟩), (7, ⟨.one, [.c (.n IntKind.i64 ((↑ws.length : Int)))], []⟩), (8, ⟨.one, [.c (.n IntKind.i64 (x : Int))], []⟩)]⟩)], [], [], []⟩) tab_ok mixed Tryz.func95 rfl Tryz.ntmps95 (rvs := [.tmp 4]) Tryz.results95 rfl fun hl => ?_
  refine cast (show (∃ (pre : Nat → Prop), ∃ (μ : Nat → Nat), ∃ (x0 : Nat), (cnRs (typ dWrt eWrtS ws) = cnRs (typ dWrt eWrtS ws) ∧ Value.func (Fn.func (59 : FuncId)) { toList := [] } { toList := [] } = Value.func (Fn.func (59 : FuncId)) { toList := [] } { toList := [] } ∧ (↑ws.length : Int) = (↑ws.length : Int) ∧ (0 : Int) = (↑x0 : Int)) ∧ pre x0 ∧ ∀ (x : Nat), pre x → (decide ((↑x : Int) < (↑ws.length : Int)) = true → ((0 : Int) ≤ (↑x : Int) ∧ (↑x : Int) < (↑ws.length : Int)) ∧ ∃ (b : Wrt), ((ws.getD (↑x : Int).toNat dWrt).key = b.key ∧ (ws.getD (↑x : Int).toNat dWrt).del = b.del ∧ cnRs (typ (0 : Int) eI (ws.getD (↑x : Int).toNat dWrt).val) = cnRs (typ (0 : Int) eI b.val)) ∧ ((!wrtB b) = true → (↑x : Int) = idxOf (fun (w : Wrt) => !wrtB w) ws) ∧ ((!wrtB b) = false → ∃ (y : Nat), (cnRs (typ dWrt eWrtS ws) = cnRs (typ dWrt eWrtS ws) ∧ Value.func (Fn.func (59 : FuncId)) { toList := [] } { toList := [] } = Value.func (Fn.func (59 : FuncId)) { toList := [] } { toList := [] } ∧ (↑ws.length : Int) = (↑ws.length : Int) ∧ IntKind.i64.wrap ((↑x : Int) + (1 : Int)) = (↑y : Int)) ∧ pre y ∧ μ y < μ x)) ∧ (decide ((↑x : Int) < (↑ws.length : Int)) = false → (-1 : Int) = idxOf (fun (w : Wrt) => !wrtB w) ws)) = _ by kernel_rfl) ?_
  have hx : ws.length ≤ 9223372036854775807 := hl.1 _ (List.mem_singleton.2 rfl)
  simp only [cU, eU_iff, Prod.exists, Int.natCast_inj, and_assoc, exists_eq_left', exists_and_left, true_and, and_true, implies_true, and_self, bne_iff_ne, beq_iff_eq, beq_eq_false_iff_ne, ne_eq, forall_eq, Prod.forall, fi_eI, fi_eS, cI, nI_iff, cI_app, cItemO, cItemS, nItemO_iff, nItemS_iff, cWrtO, cWrtS, nWrtO_iff, nWrtS_iff, cStoO, cStoS, nStoO_iff, nStoS_iff, fItemO, fItemS, fWrtO, fWrtS, fStoO, fStoS, fI, frz_app, cWrtO_app, cWrtS_app, cWrtO_1, cItemO_1, opr_ex, zcast, cnRs_raw, cnRs_nil, frz_nil, nil_map, List.map_nil, Int.toNat_natCast, Bool.not_eq_true, Bool.not_eq_false, decide_eq_true_eq, decide_eq_false_iff_not, gt_iff_lt]
  refine ⟨fun i => i ≤ ws.length ∧ ∀ j, j < i → (!wrtB (ws.getD j dWrt)) = false, ⟨by simp, fun j hj => absurd hj (Nat.not_lt_zero _)⟩, fun i => ws.length - i, fun i hi => ?_⟩
  obtain ⟨h1, h2⟩ := hi
  refine ⟨fun hlt => ⟨by omega, by omega, ws.getD i dWrt, rfl, rfl, rfl, fun hp => ?_, fun hp => ⟨i + 1, wrapN (by omega), ⟨by omega, below_succ h2 hp⟩, by simp only; omega⟩⟩, fun hge => ?_⟩
  · exact (idx_hit (p := fun w => !wrtB w) (by omega) hp h2).symm
  · exact (idx_miss (p := fun w => !wrtB w) (d := dWrt) fun j hj => h2 j (by omega)).symm
def IndexWrt_c : Con Tryz.prog := ⟨95, 2, [.lend, .lend], [], List Wrt, none, fun b => [(0, k1 (sWrts b)), (1, kF 59)], fun b => [(2, kI (idxOf (fun w => !wrtB w) b))], [], fun b h => IndexWrt_ok b⟩
theorem ContainsWrt_ok (ws : List Wrt) : FunOK Tryz.prog 58 2 [] [(0, k1 (sWrts ws)), (1, kF 59)] (· = [(2, kB (ws.any fun w => !wrtB w))]) := by
  refine fun_to (E := ⟨tab, ctOf [IndexWrt_c], 9, [], [(0, [0, 1]), (1, [4])], [], [], [], []⟩) tab_ok mixed Tryz.func58 rfl Tryz.ntmps58 (rvs := [.tmp 4]) Tryz.results58 rfl fun hl => ?_
  refine cast (show (∃ (b : List Wrt), (cnRs (typ dWrt eWrtS ws) = cnRs (typ dWrt eWrtS b) ∧ Value.func (Fn.func (59 : FuncId)) { toList := [] } { toList := [] } = Value.func (Fn.func (59 : FuncId)) { toList := [] } { toList := [] }) ∧ decide (idxOf (fun (w : Wrt) => !wrtB w) b ≥ (0 : Int)) = ws.any fun (w : Wrt) => !wrtB w) = _ by kernel_rfl) ?_
  simp only [cU, eU_iff, Prod.exists, Int.natCast_inj, and_assoc, exists_eq_left', exists_and_left, true_and, and_true, implies_true, and_self, bne_iff_ne, beq_iff_eq, beq_eq_false_iff_ne, ne_eq, forall_eq, Prod.forall, fi_eI, fi_eS, cI, nI_iff, cI_app, cItemO, cItemS, nItemO_iff, nItemS_iff, cWrtO, cWrtS, nWrtO_iff, nWrtS_iff, cStoO, cStoS, nStoO_iff, nStoS_iff, fItemO, fItemS, fWrtO, fWrtS, fStoO, fStoS, fI, frz_app, cWrtO_app, cWrtS_app, cWrtO_1, cItemO_1, opr_ex, zcast, cnRs_raw, cnRs_nil, frz_nil, nil_map, List.map_nil, Int.toNat_natCast, Bool.not_eq_true, Bool.not_eq_false, decide_eq_true_eq, decide_eq_false_iff_not, gt_iff_lt]
  exact idx_ge _ _
def ContainsWrt_c : Con Tryz.prog := ⟨58, 2, [.lend, .lend], [], List Wrt, none, fun b => [(0, k1 (sWrts b)), (1, kF 59)], fun b => [(2, kB (b.any fun w => !wrtB w))], [], fun b h => ContainsWrt_ok b⟩
theorem StoWrite1_ok (s : Sto) (w : Wrt) (hpre : stoB s = true ∧ wrtB w = true) : FunOK Tryz.prog 60 2 [0] [(0, ⟨.box, [.c (oItems s)], []⟩), (1, kWrt w)] (· = [(2, ⟨.tup [], [], []⟩), (0, ⟨.box, [.c (oItems (writeI s w))], []⟩)]) := by
  refine fun_to (E := ⟨tab, ctOf [del_c, ins_c, slices_Clone_int_c, StoFind_c], 63, [0], [(0, [0, 3]), (1, [0, 3, 4, 5]), (2, [0]), (3, [0, 3, 4, 5, 31]), (4, [0]), (5, [0, 3, 4, 5, 48]), (6, [0, 3, 4, 51]), (7, [0])], [], [], [], []⟩) tab_ok mixed Tryz.func60 rfl Tryz.ntmps60 (rvs := []) Tryz.results60 rfl fun hl => ?_
  refine cast (show (∃ (b : Sto × ByteArray), (cnRs (frozenRs (typ dItem eItemO s)) = cnRs (typ dItem eItemS b.1) ∧ w.key = b.2) ∧ stoB b.1 = true ∧ (w.del = true → (hitS b.1 b.2 = true → ∃ (b_1 : List Item × Nat), (cnRs (typ dItem eItemO s) = cnRs (typ dItem eItemO b_1.1) ∧ (↑(posS b.1 b.2) : Int) = (↑b_1.2 : Int) ∧ IntKind.i64.wrap ((↑(posS b.1 b.2) : Int) + (1 : Int)) = (↑b_1.2 : Int) + (1 : Int)) ∧ b_1.2 < b_1.1.length ∧ True ∧ cnRs (typ dItem eItemO (b_1.1.eraseIdx b_1.2)) = cnRs (typ dItem eItemO (writeI s w))) ∧ (hitS b.1 b.2 = false → (w.del = true → True ∧ cnRs (typ dItem eItemO s) = cnRs (typ dItem eItemO (writeI s w))) ∧ (w.del = false → (hitS b.1 b.2 = true → ∃ (b_1 : List Int), cnRs (typ (0 : Int) eI w.val) = cnRs (typ (0 : Int) eI b_1) ∧ ((0 : Nat) < b_1.length ∧ b_1.length ≤ (1000 : Nat)) ∧ ((0 : Int) ≤ (↑(posS b.1 b.2) : Int) ∧ (↑(posS b.1 b.2) : Int) < (↑(List.length s) : Int)) ∧ (↑(posS b.1 b.2) : Int).toNat < List.length s ∧ True ∧ cnRs (setF (typ dItem eItemO s) (↑(posS b.1 b.2) : Int).toNat (1 : Nat) (CV.ow (3 : Nat) (typ (0 : Int) eI b_1))) = cnRs (typ dItem eItemO (writeI s w))) ∧ (hitS b.1 b.2 = false → ∃ (b_1 : List Int), cnRs (typ (0 : Int) eI w.val) = cnRs (typ (0 : Int) eI b_1) ∧ ((0 : Nat) < b_1.length ∧ b_1.length ≤ (1000 : Nat)) ∧ ∃ (b_2 : List Item × Nat × Item), (cnRs (typ dItem eItemO s) = cnRs (typ dItem eItemO b_2.1) ∧ (↑(posS b.1 b.2) : Int) = (↑b_2.2.1 : Int) ∧ cnRs (raw [[CV.s w.key, CV.ow (3 : Nat) (typ (0 : Int) eI b_1)]]) = cnRs (raw [[CV.s b_2.2.2.key, CV.ow (3 : Nat) (typ (0 : Int) eI b_2.2.2.val)]])) ∧ (b_2.2.1 ≤ b_2.1.length ∧ b_2.1.length ≤ (1000 : Nat)) ∧ True ∧ cnRs (typ dItem eItemO (b_2.1.insertIdx b_2.2.1 b_2.2.2)) = cnRs (typ dItem eItemO (writeI s w)))))) ∧ (w.del = false → (w.del = true → True ∧ cnRs (typ dItem eItemO s) = cnRs (typ dItem eItemO (writeI s w))) ∧ (w.del = false → (hitS b.1 b.2 = true → ∃ (b_1 : List Int), cnRs (typ (0 : Int) eI w.val) = cnRs (typ (0 : Int) eI b_1) ∧ ((0 : Nat) < b_1.length ∧ b_1.length ≤ (1000 : Nat)) ∧ ((0 : Int) ≤ (↑(posS b.1 b.2) : Int) ∧ (↑(posS b.1 b.2) : Int) < (↑(List.length s) : Int)) ∧ (↑(posS b.1 b.2) : Int).toNat < List.length s ∧ True ∧ cnRs (setF (typ dItem eItemO s) (↑(posS b.1 b.2) : Int).toNat (1 : Nat) (CV.ow (3 : Nat) (typ (0 : Int) eI b_1))) = cnRs (typ dItem eItemO (writeI s w))) ∧ (hitS b.1 b.2 = false → ∃ (b_1 : List Int), cnRs (typ (0 : Int) eI w.val) = cnRs (typ (0 : Int) eI b_1) ∧ ((0 : Nat) < b_1.length ∧ b_1.length ≤ (1000 : Nat)) ∧ ∃ (b_2 : List Item × Nat × Item), (cnRs (typ dItem eItemO s) = cnRs (typ dItem eItemO b_2.1) ∧ (↑(posS b.1 b.2) : Int) = (↑b_2.2.1 : Int) ∧ cnRs (raw [[CV.s w.key, CV.ow (3 : Nat) (typ (0 : Int) eI b_1)]]) = cnRs (raw [[CV.s b_2.2.2.key, CV.ow (3 : Nat) (typ (0 : Int) eI b_2.2.2.val)]])) ∧ (b_2.2.1 ≤ b_2.1.length ∧ b_2.1.length ≤ (1000 : Nat)) ∧ True ∧ cnRs (typ dItem eItemO (b_2.1.insertIdx b_2.2.1 b_2.2.2)) = cnRs (typ dItem eItemO (writeI s w)))))) = _ by kernel_rfl) ?_
  simp only [cU, eU_iff, Prod.exists, Int.natCast_inj, and_assoc, exists_eq_left', exists_and_left, true_and, and_true, implies_true, and_self, bne_iff_ne, beq_iff_eq, beq_eq_false_iff_ne, ne_eq, forall_eq, Prod.forall, fi_eI, fi_eS, cI, nI_iff, cI_app, cItemO, cItemS, nItemO_iff, nItemS_iff, cWrtO, cWrtS, nWrtO_iff, nWrtS_iff, cStoO, cStoS, nStoO_iff, nStoS_iff, fItemO, fItemS, fWrtO, fWrtS, fStoO, fStoS, fI, frz_app, cWrtO_app, cWrtS_app, cWrtO_1, cItemO_1, opr_ex, zcast, cnRs_raw, cnRs_nil, frz_nil, nil_map, List.map_nil, Int.toNat_natCast, Bool.not_eq_true, Bool.not_eq_false, decide_eq_true_eq, decide_eq_false_iff_not, gt_iff_lt]
  obtain ⟨hs, hw⟩ := hpre
  have hn := (stoB_small hs).1
  have hp := pos_le s w.key
  have hhit : hitS s w.key = true → posS s w.key < s.length ∧ (s.getD (posS s w.key) dItem).key = w.key := fun h => by
    simp only [hitS, Bool.and_eq_true, decide_eq_true_eq] at h
    exact ⟨h.1, eqB_iff'.1 h.2⟩
  refine ⟨hs, fun hd => ⟨fun hh => ⟨IntWalk.i64_in _ (by omega), (hhit hh).1, by simp [writeI, hh, hd]⟩, fun hh => ⟨fun _ => by simp [writeI, hh, hd], fun h => (by rw [hd] at h; cases h)⟩⟩, fun hd => ⟨fun h => (by rw [hd] at h; cases h), fun _ => ⟨fun hh => ?_, fun hh => ?_⟩⟩⟩
  · have hv := wrt_val hw hd
    refine ⟨hv.1, hv.2, by omega, by have := (hhit hh).1; omega, (hhit hh).1, ?_⟩
    rw [cItemSet _ _ _ (hhit hh).1, (hhit hh).2]
    simp [writeI, hh, hd]
  · have hv := wrt_val hw hd
    refine ⟨hv.1, hv.2, ⟨w.key, w.val⟩, rfl, hp, by omega, ?_⟩
    simp [writeI, hh, hd]
def StoWrite1_c : Con Tryz.prog := ⟨60, 2, [.ptr, .lend], [0], Sto × Wrt, some fun b => stoB b.1 = true ∧ wrtB b.2 = true, fun b => [(0, ⟨.box, [.c (oItems b.1)], []⟩), (1, kWrt b.2)], fun b => [(2, ⟨.tup [], [], []⟩), (0, ⟨.box, [.c (oItems (writeI b.1 b.2))], []⟩)], [], fun b h => StoWrite1_ok (b.1) (b.2) h⟩
theorem impl_StoDo_ok (s : Sto) (ws : List Wrt) : FunOK Tryz.prog 23 2 [] [(0, kSto s), (1, k1 (sWrts ws))] (· = [(2, ⟨.agg, [.c (oItems (doS s ws))], []⟩)]) := by
  refine fun_to (E := ⟨tab, ctOf [StoCopied_c, impl_StoOk_c, ContainsWrt_c, StoWrite1_c], 33, [], [(0, [1, 2, 4, 5, 15, 30, 32]), (1, [1, 2, 4, 5, 14, 15, 30, 32]), (2, [4, 5, 15, 30, 32]), (3, [1, 4, 5, 15, 30, 32]), (4, [1, 4, 5, 15, 18, 19, 20, 30, 32]), (5, [1, 4, 5, 15, 18, 19, 20, 21, 30, 32]), (6, [1, 4, 5, 7, 15, 18, 19, 20, 30, 32]), (7, [1, 4, 5, 15, 18, 19, 20, 30, 32]), (8, [1, 4, 5, 15, 18, 19, 20, 29, 30, 32]), (9, [4, 5, 15, 30, 32]), (10, [1, 4, 5, 15, 18, 19, 20, 30, 32]), (11, [4, 5, 15, 30, 32])], [(0, ⟨List Item × List Item × Nat, fun x => [(1, ⟨.one, [.c (.sh 55 (typ dWrt eWrtS ws))], []⟩), (4, ⟨.box, [.c (oItems (x.1))], []⟩), (5, ⟨.box, [.c (oItems (x.2.1))], []⟩), (18, ⟨.one, [.c (.sh 55 (typ dWrt eWrtS ws))], []⟩), (19, ⟨.one, [.c (.n IntKind.i64 ((↑ws.length : Int)))], []⟩), (20, ⟨.one, [.c (.n IntKind.i64 (x.2.2 : Int))], []⟩)]⟩)], [], [], []⟩) tab_ok mixed Tryz.func23 rfl Tryz.ntmps23 (rvs := [.cell 4 35]) Tryz.results23 rfl fun hl => ?_
  refine cast (show (∃ (b : List Item), cnRs (typ dItem eItemS s) = cnRs (typ dItem eItemS b) ∧ ((!stoB b) = false → ∃ (b : List Wrt), (cnRs (typ dWrt eWrtS ws) = cnRs (typ dWrt eWrtS b) ∧ Value.func (Fn.func (59 : Nat)) #[] #[] = Value.func (Fn.func (59 : FuncId)) { toList := [] } { toList := [] }) ∧ ((b.any fun (w : Wrt) => !wrtB w) = true → cnRs nilR = cnRs (typ dItem eItemO (doS s ws))) ∧ ((b.any fun (w : Wrt) => !wrtB w) = false → ∃ (b : List Item), cnRs (typ dItem eItemS s) = cnRs (typ dItem eItemS b) ∧ stoB b = true ∧ ∃ (pre : List Item × List Item × Nat → Prop), ∃ (μ : List Item × List Item × Nat → Nat), ∃ (x0 : List Item × List Item × Nat), (cnRs (typ dWrt eWrtS ws) = cnRs (typ dWrt eWrtS ws) ∧ cnRs nilR = cnRs (typ dItem eItemO x0.1) ∧ cnRs (typ dItem eItemO b) = cnRs (typ dItem eItemO x0.2.1) ∧ cnRs (typ dWrt eWrtS ws) = cnRs (typ dWrt eWrtS ws) ∧ (↑ws.length : Int) = (↑ws.length : Int) ∧ (0 : Int) = (↑x0.2.2 : Int)) ∧ pre x0 ∧ ∀ (x : List Item × List Item × Nat), pre x → (decide ((↑x.2.2 : Int) < (↑ws.length : Int)) = true → ((0 : Int) ≤ (↑x.2.2 : Int) ∧ (↑x.2.2 : Int) < (↑ws.length : Int)) ∧ ∃ (b : Sto × Wrt), (cnRs (typ dItem eItemO x.2.1) = cnRs (typ dItem eItemO b.1) ∧ (ws.getD (↑x.2.2 : Int).toNat dWrt).key = b.2.key ∧ (ws.getD (↑x.2.2 : Int).toNat dWrt).del = b.2.del ∧ cnRs (typ (0 : Int) eI (ws.getD (↑x.2.2 : Int).toNat dWrt).val) = cnRs (typ (0 : Int) eI b.2.val)) ∧ (stoB b.1 = true ∧ wrtB b.2 = true) ∧ (decide ((↑(List.length (writeI b.1 b.2)) : Int) > (40 : Int)) = true → cnRs nilR = cnRs (typ dItem eItemO (doS s ws))) ∧ (decide ((↑(List.length (writeI b.1 b.2)) : Int) > (40 : Int)) = false → ∃ (y : List Item × List Item × Nat), (cnRs (typ dWrt eWrtS ws) = cnRs (typ dWrt eWrtS ws) ∧ cnRs (typ dItem eItemO x.1) = cnRs (typ dItem eItemO y.1) ∧ cnRs (typ dItem eItemO (writeI b.1 b.2)) = cnRs (typ dItem eItemO y.2.1) ∧ cnRs (typ dWrt eWrtS ws) = cnRs (typ dWrt eWrtS ws) ∧ (↑ws.length : Int) = (↑ws.length : Int) ∧ IntKind.i64.wrap ((↑x.2.2 : Int) + (1 : Int)) = (↑y.2.2 : Int)) ∧ pre y ∧ μ y < μ x)) ∧ (decide ((↑x.2.2 : Int) < (↑ws.length : Int)) = false → cnRs (typ dItem eItemO x.2.1) = cnRs (typ dItem eItemO (doS s ws))))) ∧ ((!stoB b) = true → cnRs nilR = cnRs (typ dItem eItemO (doS s ws)))) = _ by kernel_rfl) ?_
  have hx : ws.length ≤ 9223372036854775807 := hl.2.1 _ (List.mem_singleton.2 rfl)
  simp only [cU, eU_iff, Prod.exists, Int.natCast_inj, and_assoc, exists_eq_left', exists_and_left, true_and, and_true, implies_true, and_self, bne_iff_ne, beq_iff_eq, beq_eq_false_iff_ne, ne_eq, forall_eq, Prod.forall, fi_eI, fi_eS, cI, nI_iff, cI_app, cItemO, cItemS, nItemO_iff, nItemS_iff, cWrtO, cWrtS, nWrtO_iff, nWrtS_iff, cStoO, cStoS, nStoO_iff, nStoS_iff, fItemO, fItemS, fWrtO, fWrtS, fStoO, fStoS, fI, frz_app, cWrtO_app, cWrtS_app, cWrtO_1, cItemO_1, opr_ex, zcast, cnRs_raw, cnRs_nil, frz_nil, nil_map, List.map_nil, Int.toNat_natCast, Bool.not_eq_true, Bool.not_eq_false, decide_eq_true_eq, decide_eq_false_iff_not, gt_iff_lt]
  refine ⟨fun h1 => ⟨fun h2 => ?_, fun h2 => ?_⟩, fun h1 => ?_⟩
  · simp [doS, doL_bad h2]
  · have hs : stoB s = true := by simpa using h1
    refine ⟨hs, fun x => x.1 = [] ∧ stoB x.2.1 = true ∧ x.2.2 ≤ ws.length ∧ doL x.2.1 (ws.drop x.2.2) = doS s ws, ⟨rfl, hs, by simp, by simp [doS, hs]⟩, fun x => ws.length - x.2.2, fun a t b hp => ?_⟩
    obtain ⟨h3, h4, h5, h6⟩ := hp
    simp only at h3 h4 h5 h6
    refine ⟨fun hlt => ?_, fun hge => ?_⟩
    · have hlt : b < ws.length := by omega
      have hw : wrtB (ws.getD b dWrt) = true := by
        rw [getD_lt hlt]
        simpa using (List.any_eq_false.1 h2) _ (List.getElem_mem hlt)
      rw [drop_at hlt (d := dWrt), doL, hw, write_eq h4] at h6
      refine ⟨by omega, by omega, ws.getD b dWrt, rfl, rfl, rfl, h4, hw, fun h7 => ?_, fun h7 => ⟨b + 1, wrapN (by omega), ⟨h3, ?_, by simp only; omega, ?_⟩, by simp only; omega⟩⟩
      · have h8 : decide (40 < (writeI t (ws.getD b dWrt)).length) = true := decide_eq_true (by omega)
        rw [h8] at h6; exact h6
      · exact write_sto h4 hw (by omega)
      · have h8 : decide (40 < (writeI t (ws.getD b dWrt)).length) = false := decide_eq_false (by omega)
        rw [h8] at h6; exact h6
    · have : b = ws.length := by omega
      rw [this, List.drop_length, doL] at h6
      exact h6
  · have hs : stoB s = false := by simpa using h1
    simp [doS, hs]
def impl_StoDo_c : Con Tryz.prog := ⟨23, 2, [.lend, .lend], [], Sto × List Wrt, none, fun b => [(0, kSto b.1), (1, k1 (sWrts b.2))], fun b => [(2, ⟨.agg, [.c (oItems (doS b.1 b.2))], []⟩)], [], fun b h => impl_StoDo_ok (b.1) (b.2)⟩
theorem impl_GloDo_ok (l : List Sto) (tx : Int) (o : Opr) : FunOK Tryz.prog 11 3 [] [(0, k1 (sStos l)), (1, kI tx), (2, kOp o)] (· = [(3, ⟨.tup [(false, 1), (false, 1)], [.c (oStos (gloD l tx o).1), .c (.b (gloD l tx o).2)], []⟩)]) := by
  refine fun_to (E := ⟨tab, ctOf [impl_PlcPlan_c, impl_OpPlaces_c, impl_GloOk_c, impl_StoDo_c, impl_OpOk_c, impl_isTx_c, StoCopied_c], 79, [], [(0, [0, 1, 5, 8, 9, 34, 36, 37, 38, 39, 41, 42, 43, 64, 78]), (1, [0, 1, 5, 8, 9, 27, 34, 36, 37, 38, 39, 41, 42, 43, 64, 78]), (2, [6, 7, 8, 9, 34, 36, 37, 38, 39, 41, 42, 43, 64, 78]), (3, [0, 1, 5, 8, 9, 34, 36, 37, 38, 39, 41, 42, 43, 64, 78]), (4, [0, 1, 5, 8, 9, 28, 29, 30, 34, 36, 37, 38, 39, 41, 42, 43, 64, 78]), (5, [0, 1, 5, 8, 9, 28, 29, 30, 31, 34, 36, 37, 38, 39, 41, 42, 43, 64, 78]), (6, [0, 1, 5, 8, 9, 11, 28, 29, 30, 34, 36, 37, 38, 39, 41, 42, 43, 64, 78]), (7, [0, 1, 5, 8, 9, 28, 29, 30, 34, 36, 37, 38, 39, 41, 42, 43, 64, 78]), (8, [0, 1, 5, 8, 9, 28, 29, 30, 34, 36, 37, 38, 39, 41, 42, 43, 64, 78]), (9, [0, 1, 5, 8, 9, 34, 36, 37, 38, 39, 41, 42, 43, 46, 47, 48, 64, 78]), (10, [0, 1, 5, 8, 9, 34, 36, 37, 38, 39, 41, 42, 43, 46, 47, 48, 49, 64, 78]), (11, [0, 1, 5, 8, 9, 13, 34, 36, 37, 38, 39, 41, 42, 43, 46, 47, 48, 64, 78]), (12, [0, 1, 5, 8, 9, 13, 14, 34, 36, 37, 38, 39, 41, 42, 43, 46, 47, 48, 64, 78]), (13, [0, 1, 5, 8, 9, 13, 14, 34, 36, 37, 38, 39, 41, 42, 43, 46, 47, 48, 63, 64, 78]), (14, [6, 7, 8, 9, 34, 36, 37, 38, 39, 41, 42, 43, 64, 78]), (15, [0, 1, 5, 8, 9, 34, 36, 37, 38, 39, 41, 42, 43, 46, 47, 48, 64, 78]), (16, [0, 1, 5, 8, 9, 34, 36, 37, 38, 39, 41, 42, 43, 46, 47, 48, 64, 78]), (17, [6, 7, 8, 9, 34, 36, 37, 38, 39, 41, 42, 43, 64, 78])], [(0, ⟨List Sto × List Sto × Nat, fun x => [(0, ⟨.one, [.c (.sh 35 (typ [] eStoS l))], []⟩), (1, ⟨.one, [.c (.n IntKind.i64 tx)], []⟩), (5, ⟨.box, [.c (.n IntKind.i64 o.kind), .c (.n IntKind.i64 o.who), .c (.n IntKind.i64 o.inn), .c (.n IntKind.i64 o.code), .c (.n IntKind.i64 o.sec), .c (.n IntKind.i64 o.fam), .c (.n IntKind.i64 o.gen)], []⟩), (8, ⟨.one, [.c (oStos (x.1))], []⟩), (9, ⟨.one, [.c (oStos (x.2.1))], []⟩), (28, ⟨.one, [.c (.sh 35 (typ [] eStoS l))], []⟩), (29, ⟨.one, [.c (.n IntKind.i64 ((↑l.length : Int)))], []⟩), (30, ⟨.one, [.c (.n IntKind.i64 (x.2.2 : Int))], []⟩)]⟩), (2, ⟨List Sto × List Sto × Nat, fun x => [(0, ⟨.one, [.c (.sh 35 (typ [] eStoS l))], []⟩), (1, ⟨.one, [.c (.n IntKind.i64 tx)], []⟩), (5, ⟨.box, [.c (.n IntKind.i64 o.kind), .c (.n IntKind.i64 o.who), .c (.n IntKind.i64 o.inn), .c (.n IntKind.i64 o.code), .c (.n IntKind.i64 o.sec), .c (.n IntKind.i64 o.fam), .c (.n IntKind.i64 o.gen)], []⟩), (8, ⟨.one, [.c (oStos (x.1))], []⟩), (9, ⟨.one, [.c (oStos (x.2.1))], []⟩), (46, ⟨.one, [.c (.ow 3 (typ (0 : Int) eI (placesL o)))], []⟩), (47, ⟨.one, [.c (.n IntKind.i64 ((↑(placesL o).length : Int)))], []⟩), (48, ⟨.one, [.c (.n IntKind.i64 (x.2.2 : Int))], []⟩)]⟩)], [(14, [(1000000, [])]), (17, [(1000000, [])])], [], []⟩) tab_ok mixed Tryz.func11 rfl Tryz.ntmps11 (rvs := [.tmp 6, .tmp 7]) Tryz.results11 rfl fun hl => ?_
  refine cast (show (∃ (b : List Sto), cnRs (typ [] eStoS l) = cnRs (typ [] eStoS b) ∧ ((!gloB b) = false → ∃ (b : Opr), (o.kind = b.kind ∧ o.who = b.who ∧ o.inn = b.inn ∧ o.code = b.code ∧ o.sec = b.sec ∧ o.fam = b.fam ∧ o.gen = b.gen) ∧ ((!opOk b) = false → ∃ (b : Int), tx = b ∧ ((!inR b (0 : Int) (29 : Int)) = true → (gloD l tx o).1.length = (0 : Nat) ∧ false = (gloD l tx o).2) ∧ ((!inR b (0 : Int) (29 : Int)) = false → ∃ (pre : List Sto × List Sto × Nat → Prop), ∃ (μ : List Sto × List Sto × Nat → Nat), ∃ (x0 : List Sto × List Sto × Nat), (cnRs (typ [] eStoS l) = cnRs (typ [] eStoS l) ∧ tx = tx ∧ (o.kind = o.kind ∧ o.who = o.who ∧ o.inn = o.inn ∧ o.code = o.code ∧ o.sec = o.sec ∧ o.fam = o.fam ∧ o.gen = o.gen) ∧ x0.1.length = (0 : Nat) ∧ x0.2.1.length = (0 : Nat) ∧ cnRs (typ [] eStoS l) = cnRs (typ [] eStoS l) ∧ (↑l.length : Int) = (↑l.length : Int) ∧ (0 : Int) = (↑x0.2.2 : Int)) ∧ pre x0 ∧ ∀ (x : List Sto × List Sto × Nat), pre x → (decide ((↑x.2.2 : Int) < (↑l.length : Int)) = true → ((0 : Int) ≤ (↑x.2.2 : Int) ∧ (↑x.2.2 : Int) < (↑l.length : Int)) ∧ ∃ (b : List Item), cnRs (typ dItem eItemS (l.getD (↑x.2.2 : Int).toNat [])) = cnRs (typ dItem eItemS b) ∧ stoB b = true ∧ (x.1.length + (1 : Nat)) * (24 : Nat) ≤ (140737488355328 : Nat) ∧ ∃ (b_1 : List Item), cnRs (typ dItem eItemS (l.getD (↑x.2.2 : Int).toNat [])) = cnRs (typ dItem eItemS b_1) ∧ stoB b_1 = true ∧ (x.2.1.length + (1 : Nat)) * (24 : Nat) ≤ (140737488355328 : Nat) ∧ ∃ (y : List Sto × List Sto × Nat), (cnRs (typ [] eStoS l) = cnRs (typ [] eStoS l) ∧ tx = tx ∧ (o.kind = o.kind ∧ o.who = o.who ∧ o.inn = o.inn ∧ o.code = o.code ∧ o.sec = o.sec ∧ o.fam = o.fam ∧ o.gen = o.gen) ∧ cnRs (appR (typ [] eStoO x.1) (raw [[CV.ow (75 : Nat) (typ dItem eItemO b)]])) = cnRs (typ [] eStoO y.1) ∧ cnRs (appR (typ [] eStoO x.2.1) (raw [[CV.ow (75 : Nat) (typ dItem eItemO b_1)]])) = cnRs (typ [] eStoO y.2.1) ∧ cnRs (typ [] eStoS l) = cnRs (typ [] eStoS l) ∧ (↑l.length : Int) = (↑l.length : Int) ∧ IntKind.i64.wrap ((↑x.2.2 : Int) + (1 : Int)) = (↑y.2.2 : Int)) ∧ pre y ∧ μ y < μ x) ∧ (decide ((↑x.2.2 : Int) < (↑l.length : Int)) = false → ∃ (b : Opr), (o.kind = b.kind ∧ o.who = b.who ∧ o.inn = b.inn ∧ o.code = b.code ∧ o.sec = b.sec ∧ o.fam = b.fam ∧ o.gen = b.gen) ∧ ∃ (pre : List Sto × List Sto × Nat → Prop), ∃ (μ : List Sto × List Sto × Nat → Nat), ∃ (x0 : List Sto × List Sto × Nat), (cnRs (typ [] eStoS l) = cnRs (typ [] eStoS l) ∧ tx = tx ∧ (o.kind = o.kind ∧ o.who = o.who ∧ o.inn = o.inn ∧ o.code = o.code ∧ o.sec = o.sec ∧ o.fam = o.fam ∧ o.gen = o.gen) ∧ cnRs (typ [] eStoO x.1) = cnRs (typ [] eStoO x0.1) ∧ cnRs (typ [] eStoO x.2.1) = cnRs (typ [] eStoO x0.2.1) ∧ cnRs (typ (0 : Int) eI (placesL b)) = cnRs (typ (0 : Int) eI (placesL o)) ∧ (↑(placesL b).length : Int) = (↑(placesL o).length : Int) ∧ (0 : Int) = (↑x0.2.2 : Int)) ∧ pre x0 ∧ ∀ (x : List Sto × List Sto × Nat), pre x → (decide ((↑x.2.2 : Int) < (↑(placesL o).length : Int)) = true → ((0 : Int) ≤ (↑x.2.2 : Int) ∧ (↑x.2.2 : Int) < (↑(placesL o).length : Int)) ∧ (↑x.2.2 : Int).toNat < (placesL o).length ∧ ((0 : Int) ≤ IntKind.i64.wrap ((placesL o).getD (↑x.2.2 : Int).toNat (0 : Int) - (1 : Int)) ∧ IntKind.i64.wrap ((placesL o).getD (↑x.2.2 : Int).toNat (0 : Int) - (1 : Int)) < (↑l.length : Int)) ∧ ∃ (b : Int × Sto × Int × Opr), ((placesL o).getD (↑x.2.2 : Int).toNat (0 : Int) = b.1 ∧ cnRs (typ dItem eItemS (l.getD (IntKind.i64.wrap ((placesL o).getD (↑x.2.2 : Int).toNat (0 : Int) - (1 : Int))).toNat [])) = cnRs (typ dItem eItemS b.2.1) ∧ tx = b.2.2.1 ∧ o.kind = b.2.2.2.kind ∧ o.who = b.2.2.2.who ∧ o.inn = b.2.2.2.inn ∧ o.code = b.2.2.2.code ∧ o.sec = b.2.2.2.sec ∧ o.fam = b.2.2.2.fam ∧ o.gen = b.2.2.2.gen) ∧ ((!(planI b.1 b.2.1 b.2.2.1 b.2.2.2).ok) = true → cnRs (typ [] eStoO x.1) = cnRs (typ [] eStoO (gloD l tx o).1) ∧ false = (gloD l tx o).2) ∧ ((!(planI b.1 b.2.1 b.2.2.1 b.2.2.2).ok) = false → ((0 : Int) ≤ IntKind.i64.wrap ((placesL o).getD (↑x.2.2 : Int).toNat (0 : Int) - (1 : Int)) ∧ IntKind.i64.wrap ((placesL o).getD (↑x.2.2 : Int).toNat (0 : Int) - (1 : Int)) < (↑l.length : Int)) ∧ ∃ (b_1 : Sto × List Wrt), (cnRs (typ dItem eItemS (l.getD (IntKind.i64.wrap ((placesL o).getD (↑x.2.2 : Int).toNat (0 : Int) - (1 : Int))).toNat [])) = cnRs (typ dItem eItemS b_1.1) ∧ cnRs (frozenRs (typ dWrt eWrtO (planI b.1 b.2.1 b.2.2.1 b.2.2.2).writes)) = cnRs (typ dWrt eWrtS b_1.2)) ∧ (((∀ (k : Nat), True ∧ (∀ (k : Nat), True ∧ True) ∧ True) ∧ True) ∧ True) ∧ ((0 : Int) ≤ IntKind.i64.wrap ((placesL o).getD (↑x.2.2 : Int).toNat (0 : Int) - (1 : Int)) ∧ IntKind.i64.wrap ((placesL o).getD (↑x.2.2 : Int).toNat (0 : Int) - (1 : Int)) < (↑x.2.1.length : Int)) ∧ (IntKind.i64.wrap ((placesL o).getD (↑x.2.2 : Int).toNat (0 : Int) - (1 : Int))).toNat < x.2.1.length ∧ ∃ (y : List Sto × List Sto × Nat), (cnRs (typ [] eStoS l) = cnRs (typ [] eStoS l) ∧ tx = tx ∧ (o.kind = o.kind ∧ o.who = o.who ∧ o.inn = o.inn ∧ o.code = o.code ∧ o.sec = o.sec ∧ o.fam = o.fam ∧ o.gen = o.gen) ∧ cnRs (typ [] eStoO x.1) = cnRs (typ [] eStoO y.1) ∧ cnRs (setF (typ [] eStoO x.2.1) (IntKind.i64.wrap ((placesL o).getD (↑x.2.2 : Int).toNat (0 : Int) - (1 : Int))).toNat (0 : Nat) (CV.ow (75 : Nat) (typ dItem eItemO (doS b_1.1 b_1.2)))) = cnRs (typ [] eStoO y.2.1) ∧ cnRs (typ (0 : Int) eI (placesL o)) = cnRs (typ (0 : Int) eI (placesL o)) ∧ (↑(placesL o).length : Int) = (↑(placesL o).length : Int) ∧ IntKind.i64.wrap ((↑x.2.2 : Int) + (1 : Int)) = (↑y.2.2 : Int)) ∧ pre y ∧ μ y < μ x)) ∧ (decide ((↑x.2.2 : Int) < (↑(placesL o).length : Int)) = false → cnRs (typ [] eStoO x.2.1) = cnRs (typ [] eStoO (gloD l tx o).1) ∧ true = (gloD l tx o).2)))) ∧ ((!opOk b) = true → (gloD l tx o).1.length = (0 : Nat) ∧ false = (gloD l tx o).2)) ∧ ((!gloB b) = true → (gloD l tx o).1.length = (0 : Nat) ∧ false = (gloD l tx o).2)) = _ by kernel_rfl) ?_
  simp only [cU, eU_iff, Prod.exists, Int.natCast_inj, and_assoc, exists_eq_left', exists_and_left, true_and, and_true, implies_true, and_self, bne_iff_ne, beq_iff_eq, beq_eq_false_iff_ne, ne_eq, forall_eq, Prod.forall, fi_eI, fi_eS, cI, nI_iff, cI_app, cItemO, cItemS, nItemO_iff, nItemS_iff, cWrtO, cWrtS, nWrtO_iff, nWrtS_iff, cStoO, cStoS, nStoO_iff, nStoS_iff, fItemO, fItemS, fWrtO, fWrtS, fStoO, fStoS, fI, frz_app, cWrtO_app, cWrtS_app, cWrtO_1, cItemO_1, opr_ex, zcast, cnRs_raw, cnRs_nil, frz_nil, nil_map, List.map_nil, Int.toNat_natCast, Bool.not_eq_true, Bool.not_eq_false, decide_eq_true_eq, decide_eq_false_iff_not, gt_iff_lt]
  refine ⟨fun h1 => ⟨fun h2 => ⟨fun h3 => ?_, fun h3 => ?_⟩, fun h2 => ?_⟩, fun h1 => ?_⟩
  · have : inR tx 0 29 = false := by simpa using h3
    simp [gloD, this]
  rotate_left
  · have : opOk o = false := by simpa using h2
    simp [gloD, this]
  · have : gloB l = false := by simpa using h1
    simp [gloD, this]
  have g : gloB l = true := by simpa using h1
  have ho : opOk o = true := by simpa using h2
  have ht : inR tx 0 29 = true := by simpa using h3
  have hc : (gloB l && opOk o && inR tx 0 29) = true := by simp [g, ho, ht]
  have hd : gloD l tx o = l4D l tx o := by simp only [gloD, hc, if_true]
  clear h1 h2 h3
  simp only [hd]
  obtain ⟨g0, g1, g2, g3⟩ := glo_at g
  have hpl : (placesL o).length ≤ 3 := by simp only [placesL]; repeat' split
                                          all_goals simp
  have hnd : (placesL o).Nodup := by simp only [placesL]; repeat' split
                                     all_goals simp
  have hp : ∀ i, i < (placesL o).length → 1 ≤ (placesL o).getD i 0 ∧ (placesL o).getD i 0 ≤ 3 := by
    intro i hi
    rw [getD_lt hi]
    have : ∀ p ∈ placesL o, 1 ≤ p ∧ p ≤ 3 := by
      simp only [placesL]; repeat' split
      all_goals simp
    exact this _ (List.getElem_mem hi)
  have hplc : ∀ p : Int, 1 ≤ p → p ≤ 3 → plcB p (l.getD (p - 1).toNat []) = true := by
    intro p h1 h2
    have : p = 1 ∨ p = 2 ∨ p = 3 := by omega
    rcases this with rfl | rfl | rfl
    · exact g1
    · exact g2
    · exact g3
  refine ⟨fun x => x.2.2 ≤ l.length ∧ x.1 = l.take x.2.2 ∧ x.2.1 = l.take x.2.2, fun x => l.length - x.2.2, [], rfl, [], rfl, ⟨by simp, by simp, by simp⟩, fun a a2 b hq => ?_⟩
  obtain ⟨q1, q2, q3⟩ := hq
  simp only at q1 q2 q3
  refine ⟨fun hlt => ?_, fun hge => ?_⟩
  · have hlt : b < l.length := by omega
    have hst : stoB (l.getD b []) = true := by
      have := hplc ((b : Int) + 1) (by omega) (by omega)
      rw [show ((b : Int) + 1 - 1).toNat = b by omega] at this
      exact plc_sto this
    have e1 : a.length = b := by rw [q2, List.length_take]; omega
    have e2 : a2.length = b := by rw [q3, List.length_take]; omega
    refine ⟨by omega, by omega, hst, by omega, hst, by omega, a ++ [l.getD b []], by simp, a2 ++ [l.getD b []], by simp, b + 1, wrapN (by omega), ⟨by simp only; omega, ?_, ?_⟩, by simp only; omega⟩
    · simp only [q2]; exact (take_succ hlt).symm
    · simp only [q3]; exact (take_succ hlt).symm
  · have hb : b = l.length := by omega
    rw [hb, List.take_length] at q2 q3
    have q2 := q2.symm
    have q3 := q3.symm
    subst q2
    subst q3
    refine ⟨fun x => x.1 = l ∧ x.2.1.length = 3 ∧ x.2.2 ≤ (placesL o).length ∧ l4L l tx o ((placesL o).drop x.2.2) x.2.1 = l4D l tx o ∧ ∀ j, x.2.2 ≤ j → j < (placesL o).length → x.2.1.getD ((placesL o).getD j 0 - 1).toNat [] = l.getD ((placesL o).getD j 0 - 1).toNat [], ⟨rfl, g0, by simp, by simp only [List.drop_zero]; rfl, fun _ _ _ => rfl⟩, fun x => (placesL o).length - x.2.2, fun was now i hq => ?_⟩
    obtain ⟨r1, r2, r3, r4, r5⟩ := hq
    simp only at r1 r2 r3 r4 r5
    subst r1
    refine ⟨fun hlt => ?_, fun hge => ?_⟩
    · have hlt : i < (placesL o).length := by omega
      have hpx := hp i hlt
      have hnow := r5 i (Nat.le_refl _) hlt
      have hoth : ∀ j, i < j → j < (placesL o).length → ((placesL o).getD j 0 - 1).toNat ≠ ((placesL o).getD i 0 - 1).toNat := fun j h1 h2 => by
        have h3 := hp j h2
        have h4 : (placesL o).getD j 0 ≠ (placesL o).getD i 0 := by
          rw [getD_lt h2, getD_lt hlt]
          exact fun h => List.pairwise_iff_getElem.1 hnd i j hlt h2 h1 h.symm
        omega
      have hany : ((placesL o).any fun x => (placesL o).getD i 0 == x) = true := by
        rw [List.any_eq_true]
        exact ⟨(placesL o).getD i 0, by rw [getD_lt hlt]; exact List.getElem_mem hlt, by simp⟩
      rw [drop_at hlt (d := 0), l4L] at r4
      obtain ⟨p, hpe⟩ : ∃ p, p = (placesL o).getD i 0 := ⟨_, rfl⟩
      simp only [← hpe] at hpx r4 hnow hoth hany ⊢
      have hw := IntWalk.i64_in (p - 1) (by omega)
      simp only [hw]
      have hpp := hplc p hpx.1 hpx.2
      have hpi : planI p (was.getD (p - 1).toNat []) tx o = planP p (was.getD (p - 1).toNat []) tx o := by
        simp only [planI, hpp, ht, hany, Bool.and_self, if_true]
      rw [hpi]
      refine ⟨by omega, by omega, hlt, by omega, by omega, fun hk => ?_, fun hk => ?_⟩
      · have hk : (planP p (was.getD (p - 1).toNat []) tx o).ok = false := by simpa using hk
        rw [if_neg (by rw [hk]; exact Bool.false_ne_true)] at r4
        rw [← r4]; exact ⟨rfl, rfl⟩
      · have hk : (planP p (was.getD (p - 1).toNat []) tx o).ok = true := by simpa using hk
        rw [if_pos hk, hnow] at r4
        refine ⟨by omega, by omega, by omega, by omega, by omega, now.set (p - 1).toNat (doS (was.getD (p - 1).toNat []) (planP p (was.getD (p - 1).toNat []) tx o).writes), by simp, i + 1, wrapN (by omega), ⟨trivial, by simpa using r2, by omega, r4, fun j h1 h2 => ?_⟩, by omega⟩
        have h3 := hoth j (by omega) h2
        rw [← r5 j (by omega) h2]
        exact getD_set_ne _ h3 _ _
    · have : i = (placesL o).length := by omega
      rw [this, List.drop_length, l4L] at r4
      rw [← r4]; exact ⟨rfl, rfl⟩
def impl_GloDo_c : Con Tryz.prog := ⟨11, 3, [.lend, .lend, .lend], [], List Sto × Int × Opr, none, fun b => [(0, k1 (sStos b.1)), (1, kI b.2.1), (2, kOp b.2.2)], fun b => [(3, ⟨.tup [(false, 1), (false, 1)], [.c (oStos (gloD b.1 b.2.1 b.2.2).1), .c (.b (gloD b.1 b.2.1 b.2.2).2)], []⟩)], [], fun b h => impl_GloDo_ok (b.1) (b.2.1) (b.2.2)⟩
end Go.Proofs.AI

namespace Go.Proofs.AI
open Go.RowKit Go.Proofs
set_option linter.unusedVariables false
set_option linter.unusedSimpArgs false
set_option maxRecDepth 100000
theorem writeI_mem {s : Sto} {w : Wrt} {x : Item} (h : x ∈ writeI s w) : x ∈ s ∨ (w.del = false ∧ x = ⟨w.key, w.val⟩) := by
  simp only [writeI] at h
  cases hh : hitS s w.key <;> cases hd : w.del <;> simp only [hh, hd, Bool.false_eq_true, if_false, if_true] at h
  · have hp := pos_le s w.key
    rw [ins_td _ _ _ hp] at h
    simp only [List.mem_append, List.mem_cons] at h
    rcases h with h | h | h
    · exact .inl (List.mem_of_mem_take h)
    · exact .inr ⟨rfl, h⟩
    · exact .inl (List.mem_of_mem_drop h)
  · exact .inl h
  · rcases List.mem_or_eq_of_mem_set h with h | h
    · exact .inl h
    · exact .inr ⟨rfl, h⟩
  · exact .inl (List.mem_of_mem_eraseIdx h)
theorem plc_nil {p : Int} (hp : inR p 1 3 = true) : plcB p [] = true := by simp [plcB, hp, stoB, formB]
theorem plc_parts {p : Int} {s : Sto} : plcB p s = true ↔ inR p 1 3 = true ∧ stoB s = true ∧ ∀ x ∈ s, formI p x = true := by
  simp only [plcB, Bool.and_eq_true, formB, List.all_eq_true, and_assoc]
def fitsW (p : Int) (ws : List Wrt) : Prop := ∀ w ∈ ws, w.del = false → formI p ⟨w.key, w.val⟩ = true
theorem plc_doL {p : Int} : ∀ {ws : List Wrt} {s : Sto}, plcB p s = true → fitsW p ws → plcB p (doL s ws) = true
  | [], s, h, _ => h
  | w :: ws, s, h, hw => by
    obtain ⟨h1, h2, h3⟩ := plc_parts.1 h
    rw [doL]
    cases hb : wrtB w
    · exact plc_nil h1
    · cases hd : decide (40 < (writeS s w).length)
      · simp only [Bool.not_true, cond_false]
        refine plc_doL ?_ fun y hy => hw y (by simp [hy])
        rw [write_eq h2] at hd ⊢
        refine plc_parts.2 ⟨h1, write_sto h2 hb (by simpa using hd), fun x hx => ?_⟩
        rcases writeI_mem hx with hx | ⟨hdel, rfl⟩
        · exact h3 _ hx
        · exact hw w (by simp) hdel
      · exact plc_nil h1
theorem plc_do {p : Int} {s : Sto} {ws : List Wrt} (h : plcB p s = true) (hw : fitsW p ws) : plcB p (doS s ws) = true := by
  rw [doS, plc_sto h]
  exact plc_doL h hw
theorem ka_at (n : Nat) : byteAt (⟨#[97]⟩ ++ natS n) 0 = 97 := by
  have hs : 0 < (ByteArray.mk #[97] ++ natS n).size := by rw [ByteArray.size_append]; show 0 < 1 + _; omega
  unfold byteAt
  rw [dif_pos hs]
  have : (ByteArray.mk #[97] ++ natS n)[0]'hs = 97 := by
    rw [ByteArray.getElem_append_left (show 0 < (ByteArray.mk #[97]).size by decide)]; rfl
  rw [this]; rfl
theorem kd_size (c : UInt8) (n : Int) : (kd c n).size = 2 := by
  rw [kd, ByteArray.size_append, digS_size]; rfl
theorem plan_fits {p : Int} {s : Sto} (h : plcB p s = true) {o : Opr} (ho : opOk o = true) (hk : p = 2 → o.kind ≠ 1) (tx : Int) : fitsW p (planP p s tx o).writes := by
  obtain ⟨h1, h2, h3⟩ := plc_parts.1 h
  have hn := op_nums ho
  have hp : p = 1 ∨ p = 2 ∨ p = 3 := by simp [inR] at h1; omega
  intro w hw hd
  rcases hp with rfl | rfl | rfl
  · simp only [planP, if_true, inP] at hw
    split at hw
    · split at hw
      · simp [noP] at hw
      · simp at hw; subst hw
        simp [formI, kd_at, kd_size]; omega
    · split at hw
      · split at hw
        · simp at hw; subst hw; cases hd
        · simp at hw
      · simp [noP] at hw
  · simp only [planP, show ¬ (2 : Int) = 1 by decide, if_false, if_true, mayP] at hw
    split at hw
    · split at hw
      · simp [noP] at hw
      · simp at hw; subst hw
        simp [formI, kd_at, kd_size]; omega
    · split at hw
      · simp only [tradeP] at hw
        split at hw
        · rename_i ht
          simp at hw
          rcases hw with rfl | rfl
          · cases hd
          · have hv : hasV s (kd 99 o.code) = true := ht.1
            rcases opt_cases (getS s (kd 99 o.code)) with hg | ⟨v, hg⟩
            · simp [hasV, hg] at hv
            · have := get_code h hg
              simp [formI, kd_at, kd_size, getV, hg, inR] at this ⊢; omega
        · simp [noP] at hw
      · split at hw
        · simp only [nextP] at hw
          split at hw
          · simp [noP] at hw
          · rename_i ht
            have hv : ¬ hasV s (kd 102 o.fam) = false := fun e => ht (.inl e)
            rcases opt_cases (getS s (kd 102 o.fam)) with hg | ⟨v, hg⟩
            · simp [hasV, hg] at hv
            · have hgf := get_fam h hg
              obtain ⟨a, b, c, rfl⟩ := len3 hgf.1
              have hgv : getV s (kd 102 o.fam) = [a, b, c] := by simp [getV, hg]
              rw [hgv] at hw ht
              have e99 : ¬ b = 99 := fun e => ht (.inr (.inr (.inr (.inr e))))
              have ebg : ¬ b < o.gen := fun e => ht (.inr (.inr (.inl e)))
              simp only [List.mem_singleton] at hw
              subst hw
              have hgf := hgf.2
              simp only [List.getD_cons_zero, List.getD_cons_succ] at hgf
              show formI 2 ⟨kd 102 o.fam, if o.gen < b then [a, b, 0] else [a, b + 1, 1]⟩ = true
              split <;> simp [formI, kd_at, kd_size, inR] <;> omega
        · simp only [outP, List.mem_map, List.mem_filter] at hw
          obtain ⟨it, ⟨hm, hi⟩, rfl⟩ := hw
          have hf := h3 it hm
          simp only [outI, Bool.and_eq_true, beq_iff_eq] at hi
          obtain ⟨⟨e1, e2⟩, e3⟩ := hi
          simp only [List.getD_eq_getElem?_getD] at e2 e3
          simp [formI, outW, e1, e2, e3, inR] at hf ⊢
          omega
  · simp only [planP, show ¬ (3 : Int) = 1 by decide, show ¬ (3 : Int) = 2 by decide, if_false] at hw
    split at hw
    · simp [noP] at hw
    · simp at hw; subst hw
      simp [formI, ka_at]
theorem l4L_two (l : List Sto) (tx : Int) (o : Opr) : ∀ (ps : List Int) (out : List Sto), (l4L l tx o ps out).2 = ps.all fun p => (planP p (l.getD (p - 1).toNat []) tx o).ok
  | [], out => rfl
  | p :: ps, out => by
    simp only [l4L, List.all_cons]
    cases hk : (planP p (l.getD (p - 1).toNat []) tx o).ok
    · simp
    · simp only [if_true, Bool.true_and]; exact l4L_two l tx o ps _
theorem l4L_bad {l : List Sto} {tx : Int} {o : Opr} : ∀ {ps : List Int} {out : List Sto}, (l4L l tx o ps out).2 = false → (l4L l tx o ps out).1 = l
  | [], out, h => by cases h
  | p :: ps, out, h => by
    simp only [l4L] at h ⊢
    cases hk : (planP p (l.getD (p - 1).toNat []) tx o).ok
    · simp
    · simp only [hk, if_true] at h ⊢; exact l4L_bad h
theorem getD_set_eq {α : Type} (l : List α) {i : Nat} (h : i < l.length) (x d : α) : (l.set i x).getD i d = x := by
  simp [List.getD_eq_getElem?_getD, h]
theorem l4L_get {l : List Sto} {tx : Int} {o : Opr} {x : Nat} : ∀ {ps : List Int} {out : List Sto}, (l4L l tx o ps out).2 = true → ps.Nodup → (∀ p ∈ ps, 1 ≤ p ∧ p ≤ 3) → out.length = 3 →
    (l4L l tx o ps out).1.length = 3 ∧ (l4L l tx o ps out).1.getD x [] = if (ps.any fun p => p == (x : Int) + 1) = true then doS (out.getD x []) (planP ((x : Int) + 1) (l.getD x []) tx o).writes else out.getD x []
  | [], out, h, _, _, hl => ⟨hl, rfl⟩
  | p :: ps, out, h, hn, hp, hl => by
    simp only [l4L] at h ⊢
    cases hk : (planP p (l.getD (p - 1).toNat []) tx o).ok
    · rw [if_neg (by rw [hk]; exact Bool.false_ne_true)] at h; cases h
    · simp only [hk, if_true] at h ⊢
      have hn' := List.nodup_cons.1 hn
      have hpp := hp p (by simp)
      have ih := l4L_get (x := x) h hn'.2 (fun q hq => hp q (by simp [hq])) (by simpa using hl)
      refine ⟨ih.1, ih.2.trans ?_⟩
      by_cases he : p = (x : Int) + 1
      · have hx : (p - 1).toNat = x := by omega
        have hno : (ps.any fun q => q == (x : Int) + 1) = false := by
          rw [List.any_eq_false]
          intro q hq hqe
          have : q = p := by simp at hqe; omega
          exact hn'.1 (this ▸ hq)
        rw [hx, hno, if_neg Bool.false_ne_true, getD_set_eq _ (by omega)]
        simp only [List.any_cons, he, beq_self_eq_true, Bool.true_or, if_true]
      · have hne : x ≠ (p - 1).toNat := by omega
        rw [getD_set_ne _ hne]
        have : (p == (x : Int) + 1) = false := by simpa using he
        simp only [List.any_cons, this, Bool.false_or]
theorem places_nd (o : Opr) : (placesL o).Nodup := by
  simp only [placesL]
  repeat' split
  all_goals simp
theorem places_in (o : Opr) : ∀ p ∈ placesL o, 1 ≤ p ∧ p ≤ 3 := by
  simp only [placesL]
  repeat' split
  all_goals simp
theorem glo_plc {l : List Sto} (h : gloB l = true) {p : Int} (h1 : 1 ≤ p) (h2 : p ≤ 3) : plcB p (l.getD (p - 1).toNat []) = true := by
  obtain ⟨g0, g1, g2, g3⟩ := glo_at h
  have : p = 1 ∨ p = 2 ∨ p = 3 := by omega
  rcases this with rfl | rfl | rfl
  · exact g1
  · exact g2
  · exact g3
theorem glo_iff {l : List Sto} : gloB l = true ↔ l.length = 3 ∧ ∀ x : Nat, x < 3 → plcB ((x : Int) + 1) (l.getD x []) = true := by
  constructor
  · intro h
    refine ⟨(glo_at h).1, fun x hx => ?_⟩
    have := glo_plc h (p := (x : Int) + 1) (by omega) (by omega)
    rwa [show ((x : Int) + 1 - 1).toNat = x by omega] at this
  · intro ⟨h, hx⟩
    have a := hx 0 (by omega); have b := hx 1 (by omega); have c := hx 2 (by omega)
    simp only [gloB, h, beq_self_eq_true, Bool.true_and]
    simp only [show ((0 : Nat) : Int) + 1 = 1 from rfl, show ((1 : Nat) : Int) + 1 = 2 from rfl, show ((2 : Nat) : Int) + 1 = 3 from rfl] at a b c
    rw [a, b, c]; rfl
/-- What the whole does, place by place. -/
structure GloIs (l : List Sto) (tx : Int) (o : Opr) : Prop where
  two : (gloD l tx o).2 = (placesL o).all fun p => (planP p (l.getD (p - 1).toNat []) tx o).ok
  len : (gloD l tx o).1.length = 3
  get : ∀ x : Nat, (gloD l tx o).1.getD x [] = if (gloD l tx o).2 = true ∧ ((placesL o).any fun p => p == (x : Int) + 1) = true then doS (l.getD x []) (planP ((x : Int) + 1) (l.getD x []) tx o).writes else l.getD x []
  ok : gloB (gloD l tx o).1 = true
theorem glo_is {l : List Sto} {tx : Int} {o : Opr} (hg : gloB l = true) (ho : opOk o = true) (ht : inR tx 0 29 = true) : GloIs l tx o := by
  have hd : gloD l tx o = l4L l tx o (placesL o) l := by simp only [gloD, hg, ho, ht, Bool.and_self, if_true]; rfl
  have hl := (glo_at hg).1
  have h2 := l4L_two l tx o (placesL o) l
  have get : ∀ x : Nat, (gloD l tx o).1.length = 3 ∧ (gloD l tx o).1.getD x [] = if (gloD l tx o).2 = true ∧ ((placesL o).any fun p => p == (x : Int) + 1) = true then doS (l.getD x []) (planP ((x : Int) + 1) (l.getD x []) tx o).writes else l.getD x [] := by
    intro x
    rw [hd]
    cases h : (l4L l tx o (placesL o) l).2
    · rw [l4L_bad h]
      exact ⟨hl, by simp⟩
    · have := l4L_get (x := x) h (places_nd o) (places_in o) hl
      simp only [true_and]
      exact this
  refine ⟨by rw [hd]; exact h2, (get 0).1, fun x => (get x).2, glo_iff.2 ⟨(get 0).1, fun x hx => ?_⟩⟩
  rw [(get x).2]
  have hp := (glo_iff.1 hg).2 x hx
  split
  · rename_i h
    refine plc_do hp (plan_fits hp ho (fun he => ?_) tx)
    have := places_mem (p := (x : Int) + 1) (o := o) (by
      obtain ⟨q, hq, hqe⟩ := List.any_eq_true.1 h.2
      exact List.any_eq_true.2 ⟨q, hq, by simp at hqe ⊢; omega⟩)
    exact this.2.2 he
  · exact hp
end Go.Proofs.AI
