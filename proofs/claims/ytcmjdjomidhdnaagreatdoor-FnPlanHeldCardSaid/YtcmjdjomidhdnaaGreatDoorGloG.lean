/- Data and contracts. Conditions: none. -/
import Derived.KernelRfl
import Derived.Test.YtcmjdjomidhdnaaGreatDoorGloD
import Derived.Test.YtcmjdjomidhdnaaGreatDoorGloF
namespace Go.Proofs.AI
open Go.RowKit Go.Proofs
set_option linter.unusedVariables false
set_option linter.unusedSimpArgs false
set_option maxRecDepth 100000
theorem impl_named_ok (s : ByteArray) (n : Int) (hpre : 0 ≤ n ∧ n < 100 ∧ s.size ≤ 10) : FunOK Tryz.prog 51 2 [] [(0, kS s), (1, kI n)] (· = [(2, kS (s ++ natS n.toNat))]) := by
  refine fun_to (E := ⟨tab, ctOf [itoa_c], 9, [], [(0, [0, 1]), (1, [4])], [], [], [], []⟩) tab_ok mixed Tryz.func51 rfl Tryz.ntmps51 (rvs := [.tmp 4]) Tryz.results51 rfl fun hl => ?_
  refine cast (show (∃ (b : Int), n = b ∧ ((0 : Int) ≤ b ∧ b < (100 : Int)) ∧ s.size + (natS b.toNat).size ≤ (9223372036854775807 : Nat) ∧ s ++ natS b.toNat = s ++ natS n.toNat) = _ by kernel_rfl) ?_
  simp only [cU, eU_iff, Prod.exists, Int.natCast_inj, and_assoc, exists_eq_left', exists_and_left, true_and, and_true, implies_true, and_self, bne_iff_ne, beq_iff_eq, beq_eq_false_iff_ne, ne_eq, forall_eq, Prod.forall, fi_eI, fi_eS, cI, nI_iff, cI_app, cItemO, cItemS, nItemO_iff, nItemS_iff, cWrtO, cWrtS, nWrtO_iff, nWrtS_iff, cStoO, cStoS, nStoO_iff, nStoS_iff, fItemO, fItemS, fWrtO, fWrtS, fStoO, fStoS, fI, frz_app, cWrtO_app, cWrtS_app, cWrtO_1, cItemO_1, opr_ex, zcast, cnRs_raw, cnRs_nil, frz_nil, nil_map, List.map_nil, Int.toNat_natCast, Bool.not_eq_true, Bool.not_eq_false, decide_eq_true_eq, decide_eq_false_iff_not, gt_iff_lt]
  have := natS_size n.toNat (by omega)
  exact ⟨hpre.1, hpre.2.1, by omega⟩
def impl_named_c : Con Tryz.prog := ⟨51, 2, [.lend, .lend], [], ByteArray × Int, some fun b => 0 ≤ b.2 ∧ b.2 < 100 ∧ b.1.size ≤ 10, fun b => [(0, kS b.1), (1, kI b.2)], fun b => [(2, kS (b.1 ++ natS b.2.toNat))], [], fun b h => impl_named_ok (b.1) (b.2) h⟩
theorem impl_refused_ok (ks : List ByteArray) : FunOK Tryz.prog 53 1 [] [(0, k1 (oS ks))] (· = [(1, kPlan (noP ks))]) := by
  refine fun_to (E := ⟨tab, ctOf [], 5, [], [(0, [0, 2, 3, 4]), (1, [0, 2, 3, 4])], [], [(1, [(1000000, [])])], [], []⟩) tab_ok mixed Tryz.func53 rfl Tryz.ntmps53 (rvs := [.cell 2 41]) Tryz.results53 rfl fun hl => ?_
  refine cast (show (false = (noP ks).ok ∧ cnRs (typ ByteArray.empty eS ks) = cnRs (typ ByteArray.empty eS (noP ks).locks) ∧ cnRs nilR = cnRs (typ dWrt eWrtO (noP ks).writes)) = _ by kernel_rfl) ?_
  simp only [cU, eU_iff, Prod.exists, Int.natCast_inj, and_assoc, exists_eq_left', exists_and_left, true_and, and_true, implies_true, and_self, bne_iff_ne, beq_iff_eq, beq_eq_false_iff_ne, ne_eq, forall_eq, Prod.forall, fi_eI, fi_eS, cI, nI_iff, cI_app, cItemO, cItemS, nItemO_iff, nItemS_iff, cWrtO, cWrtS, nWrtO_iff, nWrtS_iff, cStoO, cStoS, nStoO_iff, nStoS_iff, fItemO, fItemS, fWrtO, fWrtS, fStoO, fStoS, fI, frz_app, cWrtO_app, cWrtS_app, cWrtO_1, cItemO_1, opr_ex, zcast, cnRs_raw, cnRs_nil, frz_nil, nil_map, List.map_nil, Int.toNat_natCast, Bool.not_eq_true, Bool.not_eq_false, decide_eq_true_eq, decide_eq_false_iff_not, gt_iff_lt, noP]
def impl_refused_c : Con Tryz.prog := ⟨53, 1, [.give], [], List ByteArray, none, fun b => [(0, k1 (oS b))], fun b => [(1, kPlan (noP b))], [], fun b h => impl_refused_ok b⟩
theorem impl_done_ok (ks : List ByteArray) (ws : List Wrt) : FunOK Tryz.prog 54 2 [] [(0, k1 (oS ks)), (1, k1 (oWrts ws))] (· = [(2, kPlan ⟨true, ks, ws⟩)]) := by
  refine fun_to (E := ⟨tab, ctOf [], 8, [], [(0, [0, 1, 4, 5, 6, 7]), (1, [0, 1, 4, 5, 6, 7])], [], [(1, [(1000000, []), (1000001, [])])], [], []⟩) tab_ok mixed Tryz.func54 rfl Tryz.ntmps54 (rvs := [.cell 4 41]) Tryz.results54 rfl fun hl => ?_
  refine cast (show (true = true ∧ cnRs (typ ByteArray.empty eS ks) = cnRs (typ ByteArray.empty eS ks) ∧ cnRs (typ dWrt eWrtO ws) = cnRs (typ dWrt eWrtO ws)) = _ by kernel_rfl) ?_
  simp only [cU, eU_iff, Prod.exists, Int.natCast_inj, and_assoc, exists_eq_left', exists_and_left, true_and, and_true, implies_true, and_self, bne_iff_ne, beq_iff_eq, beq_eq_false_iff_ne, ne_eq, forall_eq, Prod.forall, fi_eI, fi_eS, cI, nI_iff, cI_app, cItemO, cItemS, nItemO_iff, nItemS_iff, cWrtO, cWrtS, nWrtO_iff, nWrtS_iff, cStoO, cStoS, nStoO_iff, nStoS_iff, fItemO, fItemS, fWrtO, fWrtS, fStoO, fStoS, fI, frz_app, cWrtO_app, cWrtS_app, cWrtO_1, cItemO_1, opr_ex, zcast, cnRs_raw, cnRs_nil, frz_nil, nil_map, List.map_nil, Int.toNat_natCast, Bool.not_eq_true, Bool.not_eq_false, decide_eq_true_eq, decide_eq_false_iff_not, gt_iff_lt]
def impl_done_c : Con Tryz.prog := ⟨54, 2, [.give, .give], [], List ByteArray × List Wrt, none, fun b => [(0, k1 (oS b.1)), (1, k1 (oWrts b.2))], fun b => [(2, kPlan ⟨true, b.1, b.2⟩)], [], fun b h => impl_done_ok (b.1) (b.2)⟩
theorem impl_set_ok (k : ByteArray) (vs : List Int) : FunOK Tryz.prog 55 2 [] [(0, kS k), (1, k1 (oI vs))] (· = [(2, kWrtO ⟨k, false, vs⟩)]) := by
  refine fun_to (E := ⟨tab, ctOf [], 8, [], [(0, [0, 1, 4, 5, 6, 7]), (1, [1, 4, 5, 6, 7])], [], [(1, [(1000001, [])])], [], []⟩) tab_ok mixed Tryz.func55 rfl Tryz.ntmps55 (rvs := [.cell 4 55]) Tryz.results55 rfl fun hl => ?_
  refine cast (show (k = k ∧ false = false ∧ cnRs (typ (0 : Int) eI vs) = cnRs (typ (0 : Int) eI vs)) = _ by kernel_rfl) ?_
  simp only [cU, eU_iff, Prod.exists, Int.natCast_inj, and_assoc, exists_eq_left', exists_and_left, true_and, and_true, implies_true, and_self, bne_iff_ne, beq_iff_eq, beq_eq_false_iff_ne, ne_eq, forall_eq, Prod.forall, fi_eI, fi_eS, cI, nI_iff, cI_app, cItemO, cItemS, nItemO_iff, nItemS_iff, cWrtO, cWrtS, nWrtO_iff, nWrtS_iff, cStoO, cStoS, nStoO_iff, nStoS_iff, fItemO, fItemS, fWrtO, fWrtS, fStoO, fStoS, fI, frz_app, cWrtO_app, cWrtS_app, cWrtO_1, cItemO_1, opr_ex, zcast, cnRs_raw, cnRs_nil, frz_nil, nil_map, List.map_nil, Int.toNat_natCast, Bool.not_eq_true, Bool.not_eq_false, decide_eq_true_eq, decide_eq_false_iff_not, gt_iff_lt]
def impl_set_c : Con Tryz.prog := ⟨55, 2, [.lend, .give], [], ByteArray × List Int, none, fun b => [(0, kS b.1), (1, k1 (oI b.2))], fun b => [(2, kWrtO ⟨b.1, false, b.2⟩)], [], fun b h => impl_set_ok (b.1) (b.2)⟩
theorem slices_Clone_int_ok (vs : List Int) (hpre : 0 < vs.length ∧ vs.length ≤ 1000) : FunOK Tryz.prog 84 1 [] [(0, k1 (sI vs))] (· = [(1, k1 (oI vs))]) := by
  refine fun_to (E := ⟨tab, ctOf [], 8, [], [(0, [0, 5, 6, 7]), (1, [0, 4, 5, 6, 7]), (2, [0, 2, 5, 6, 7]), (3, [0, 2, 5, 6, 7])], [], [], [], []⟩) tab_ok mixed Tryz.func84 rfl Tryz.ntmps84 (rvs := [.tmp 2]) Tryz.results84 rfl fun hl => ?_
  refine cast (show ((0 : Nat) < vs.length ∧ ((if false = true then true else false) = true → vs.length = (0 : Nat)) ∧ ((if false = true then true else false) = false → ((0 : Nat) + vs.length) * (8 : Nat) ≤ (140737488355328 : Nat) ∧ cnRs (appR (raw []) (typ (0 : Int) eI vs)) = cnRs (typ (0 : Int) eI vs))) = _ by kernel_rfl) ?_
  simp only [cU, eU_iff, Prod.exists, Int.natCast_inj, and_assoc, exists_eq_left', exists_and_left, true_and, and_true, implies_true, and_self, bne_iff_ne, beq_iff_eq, beq_eq_false_iff_ne, ne_eq, forall_eq, Prod.forall, fi_eI, fi_eS, cI, nI_iff, cI_app, cItemO, cItemS, nItemO_iff, nItemS_iff, cWrtO, cWrtS, nWrtO_iff, nWrtS_iff, cStoO, cStoS, nStoO_iff, nStoS_iff, fItemO, fItemS, fWrtO, fWrtS, fStoO, fStoS, fI, frz_app, cWrtO_app, cWrtS_app, cWrtO_1, cItemO_1, opr_ex, zcast, cnRs_raw, cnRs_nil, frz_nil, nil_map, List.map_nil, Int.toNat_natCast, Bool.not_eq_true, Bool.not_eq_false, decide_eq_true_eq, decide_eq_false_iff_not, gt_iff_lt]
  refine ⟨hpre.1, fun h => by simp at h, fun _ => ⟨by omega, ?_⟩⟩
  simp [cI]
def slices_Clone_int_c : Con Tryz.prog := ⟨84, 1, [.lend], [], List Int, some fun b => 0 < b.length ∧ b.length ≤ 1000, fun b => [(0, k1 (sI b))], fun b => [(1, k1 (oI b))], [], fun b h => slices_Clone_int_ok b h⟩
theorem impl_StoStore_find_1_ok (x : Item) (k : ByteArray) : FunOK Tryz.prog 118 2 [] [(0, kItem x), (1, kS k)] (· = [(2, kI (cmpB x.key k))]) := by
  refine fun_to (E := ⟨tab, ctOf [cmp_c], 9, [], [(0, [1, 2]), (1, [4])], [], [], [], []⟩) tab_ok mixed Tryz.func118 rfl Tryz.ntmps118 (rvs := [.tmp 4]) Tryz.results118 rfl fun hl => ?_
  refine cast (show (∃ (b : ByteArray × ByteArray), (x.key = b.1 ∧ k = b.2) ∧ cmpB b.1 b.2 = cmpB x.key k) = _ by kernel_rfl) ?_
  simp only [cU, eU_iff, Prod.exists, Int.natCast_inj, and_assoc, exists_eq_left', exists_and_left, true_and, and_true, implies_true, and_self, bne_iff_ne, beq_iff_eq, beq_eq_false_iff_ne, ne_eq, forall_eq, Prod.forall, fi_eI, fi_eS, cI, nI_iff, cI_app, cItemO, cItemS, nItemO_iff, nItemS_iff, cWrtO, cWrtS, nWrtO_iff, nWrtS_iff, cStoO, cStoS, nStoO_iff, nStoS_iff, fItemO, fItemS, fWrtO, fWrtS, fStoO, fStoS, fI, frz_app, cWrtO_app, cWrtS_app, cWrtO_1, cItemO_1, opr_ex, zcast, cnRs_raw, cnRs_nil, frz_nil, nil_map, List.map_nil, Int.toNat_natCast, Bool.not_eq_true, Bool.not_eq_false, decide_eq_true_eq, decide_eq_false_iff_not, gt_iff_lt]
def impl_StoStore_find_1_c : Con Tryz.prog := ⟨118, 2, [.lend, .lend], [], Item × ByteArray, none, fun b => [(0, kItem b.1), (1, kS b.2)], fun b => [(2, kI (cmpB b.1.key b.2))], [], fun b h => impl_StoStore_find_1_ok (b.1) (b.2)⟩
theorem less_trans : ∀ a b c : List UInt8, Op.bytesLess a b = true → Op.bytesLess b c = true → Op.bytesLess a c = true
  | _, [], [], h, h' => by simp [Op.bytesLess] at h'
  | [], _, _ :: _, _, _ => rfl
  | _ :: _, [], _ :: _, h, _ => by simp [Op.bytesLess] at h
  | _, _ :: _, [], _, h => by simp [Op.bytesLess] at h
  | a :: x, b :: y, c :: z, h1, h2 => by
    have ih := less_trans x y z
    simp only [Op.bytesLess, Bool.or_eq_true, Bool.and_eq_true, decide_eq_true_eq, beq_iff_eq] at h1 h2 ⊢
    rcases h1 with h1 | ⟨rfl, h1⟩
    · rcases h2 with h2 | ⟨rfl, h2⟩
      · exact .inl (UInt8.lt_trans h1 h2)
      · exact .inl h1
    · rcases h2 with h2 | ⟨rfl, h2⟩
      · exact .inl h2
      · exact .inr ⟨rfl, ih h1 h2⟩
theorem ltB_irr (a : ByteArray) : ltB a a = false := by
  have := less_tot a.toList a.toList
  simp only [ltB]
  cases h : Op.bytesLess a.toList a.toList <;> simp [h] at this ⊢
theorem ltB_trans {a b c : ByteArray} (h1 : ltB a b = true) (h2 : ltB b c = true) : ltB a c = true := less_trans _ _ _ h1 h2
theorem eqB_iff' {a b : ByteArray} : eqB a b = true ↔ a = b := by
  simp only [eqB, beq_iff_eq, ByteArray.toList_eq, Array.toList_inj]
  exact ⟨fun h => ByteArray.ext h, fun h => by rw [h]⟩
theorem sto_step {s : Sto} (h : stoB s = true) {i : Nat} (hi : i + 1 < s.length) : ltB (s.getD i dItem).key (s.getD (i + 1) dItem).key = true := by
  simp only [stoB, Bool.and_eq_true, List.all_eq_true, List.mem_range] at h
  have := h.2 (i + 1) hi
  simp only [stoP, Bool.and_eq_true, Bool.or_eq_true, Nat.add_sub_cancel] at this
  rcases this.2 with h | h
  · simp at h
  · exact h
theorem sto_lt {s : Sto} (h : stoB s = true) {i : Nat} : ∀ {j : Nat}, i < j → j < s.length → ltB (s.getD i dItem).key (s.getD j dItem).key = true
  | 0, h1, _ => absurd h1 (Nat.not_lt_zero _)
  | j + 1, h1, h2 => by
    by_cases hij : i = j
    · subst hij; exact sto_step h h2
    · exact ltB_trans (sto_lt h (by omega) (by omega)) (sto_step h h2)
theorem sto_itAt {s : Sto} (h : stoB s = true) {i : Nat} (hi : i < s.length) : itemB (s.getD i dItem) = true := by
  simp only [stoB, Bool.and_eq_true, List.all_eq_true, List.mem_range] at h
  have := h.2 i hi
  simp only [stoP, Bool.and_eq_true] at this
  exact this.1
def posS (s : Sto) (k : ByteArray) : Nat := (s.takeWhile fun x => ltB x.key k).length
theorem tw_len {α : Type} (p : α → Bool) (d : α) : ∀ (s : List α), (s.takeWhile p).length ≤ s.length ∧ (∀ i, i < (s.takeWhile p).length → p (s.getD i d) = true) ∧ ((s.takeWhile p).length < s.length → p (s.getD (s.takeWhile p).length d) = false)
  | [] => by simp
  | x :: s => by
    have ih := tw_len p d s
    by_cases h : p x = true
    · simp only [List.takeWhile_cons, h, if_true, List.length_cons]
      refine ⟨by omega, fun i hi => ?_, fun hl => ?_⟩
      · cases i with
        | zero => exact h
        | succ i => exact ih.2.1 i (by omega)
      · exact ih.2.2 (by omega)
    · simp only [Bool.not_eq_true] at h
      simp [List.takeWhile_cons, h]
theorem pos_le (s : Sto) (k : ByteArray) : posS s k ≤ s.length := (tw_len _ dItem s).1
theorem pos_lt {s : Sto} (hs : stoB s = true) {k : ByteArray} {h : Nat} (hh : h < s.length) : (ltB (s.getD h dItem).key k = true) ↔ h < posS s k := by
  have ht := tw_len (fun x : Item => ltB x.key k) dItem s
  constructor
  · intro hl
    by_cases hc : h < posS s k
    · exact hc
    · have h3 : posS s k < s.length := by omega
      have := ht.2.2 h3
      by_cases he : posS s k = h
      · rw [← he] at hl
        have h5 : ltB (s.getD (posS s k) dItem).key k = false := this
        rw [hl] at h5; cases h5
      · have h4 := ltB_trans (sto_lt hs (show posS s k < h by omega) hh) hl
        have h5 : ltB (s.getD (posS s k) dItem).key k = false := this
        rw [h4] at h5; cases h5
  · exact fun hc => ht.2.1 h hc
def hitS (s : Sto) (k : ByteArray) : Bool := decide (posS s k < s.length) && eqB (s.getD (posS s k) dItem).key k
theorem half_eq {a b : Nat} (h1 : a ≤ b) (h2 : b ≤ 1000) : IntKind.i64.wrap ((IntKind.u64.wrap (IntKind.i64.wrap ((a : Int) + (b : Int)))).fdiv (2 ^ min (Int.toNat 1) IntKind.u64.bits)) = (((a + b) / 2 : Nat) : Int) := by
  rw [show IntKind.i64.wrap ((a : Int) + (b : Int)) = (a : Int) + (b : Int) from IntWalk.i64_in _ (by omega), IntKind.wrap_u64, show min (Int.toNat 1) IntKind.u64.bits = 1 from rfl, Int.fdiv_eq_ediv_of_nonneg _ (by decide), IntWalk.i64_in _ (by omega)]
  omega
theorem cmp_neg (a b : ByteArray) : cmpB a b < 0 ↔ ltB a b = true := by
  rw [cmpB_eq]
  cases ltB a b <;> cases eqB a b <;> simp
theorem cmp_zero (a b : ByteArray) : (cmpB a b == 0) = (!ltB a b && eqB a b) := by
  rw [cmpB_eq]
  cases ltB a b <;> cases eqB a b <;> simp
theorem hit_get {s : Sto} (hs : stoB s = true) (k : ByteArray) : getS s k = bif hitS s k then some (s.getD (posS s k) dItem).val else none := by
  cases hh : hitS s k
  · have : s.find? (fun x => eqB x.key k) = none := find_none (d := dItem) fun j hj => by
      cases hc : eqB (s.getD j dItem).key k
      · rfl
      · exfalso
        have he := eqB_iff'.1 hc
        have h1 : ¬ j < posS s k := fun h => by have := (pos_lt hs hj).2 h; rw [he, ltB_irr] at this; cases this
        have h3 : posS s k < s.length := by omega
        have h4 : eqB (s.getD (posS s k) dItem).key k = false := by simpa [hitS, h3] using hh
        have h5 : posS s k < j := by
          rcases Nat.lt_or_ge (posS s k) j with h | h
          · exact h
          · have : posS s k = j := by omega
            rw [this, hc] at h4; cases h4
        have h6 := sto_lt hs h5 hj
        rw [he] at h6
        exact absurd ((pos_lt hs h3).1 h6) (Nat.lt_irrefl _)
    simp [getS, this]
  · simp only [hitS, Bool.and_eq_true, decide_eq_true_eq] at hh
    have : s.find? (fun x => eqB x.key k) = some (s.getD (posS s k) dItem) := find_first hh.1 hh.2 fun j hj => by
      have := (pos_lt hs (show j < s.length by omega)).2 hj
      cases hc : eqB (s.getD j dItem).key k
      · rfl
      · rw [eqB_iff'.1 hc, ltB_irr] at this; cases this
    simp [getS, this]
theorem BinFind_ok (s : Sto) (k : ByteArray) (hpre : stoB s = true) : FunOK Tryz.prog 117 3 [] [(0, k1 (sItems s)), (1, kS k), (2, kF 118)] (· = [(3, ⟨.tup [(false, 1), (false, 1)], [.c (.n .i64 (posS s k)), .c (.b (hitS s k))], []⟩)]) := by
  refine fun_to (E := ⟨tab, ctOf [impl_StoStore_find_1_c], 49, [], [(0, [0, 1, 2]), (1, [0, 1, 2, 8]), (2, [0, 1, 2, 8, 9, 10]), (3, [0, 1, 2, 8, 9, 10, 17]), (4, [0, 1, 2, 8, 9, 10, 11]), (5, [0, 1, 2, 8, 9, 10, 11, 31]), (6, [0, 1, 2, 8, 9, 10]), (7, [0, 1, 2, 8, 9, 10]), (8, [6, 7])], [(0, ⟨Int × Int, fun x => [(0, ⟨.one, [.c (.sh 75 (typ dItem eItemS s))], []⟩), (1, ⟨.one, [.c (.s k)], []⟩), (2, ⟨.one, [.c (.vl (Value.func (Fn.func (118 : FuncId)) { toList := [] } { toList := [] }))], []⟩), (8, ⟨.one, [.c (.n IntKind.i64 ((↑(List.length s) : Int)))], []⟩), (9, ⟨.one, [.c (.n IntKind.i64 (x.1))], []⟩), (10, ⟨.one, [.c (.n IntKind.i64 (x.2))], []⟩)]⟩)], [], [], []⟩) tab_ok mixed Tryz.func117 rfl Tryz.ntmps117 (rvs := [.tmp 6, .tmp 7]) Tryz.results117 rfl fun hl => ?_
  refine cast (show (∃ (pre : Int × Int → Prop), ∃ (μ : Int × Int → Nat), ∃ (x0 : Int × Int), (cnRs (typ dItem eItemS s) = cnRs (typ dItem eItemS s) ∧ k = k ∧ Value.func (Fn.func (118 : FuncId)) { toList := [] } { toList := [] } = Value.func (Fn.func (118 : FuncId)) { toList := [] } { toList := [] } ∧ (↑(List.length s) : Int) = (↑(List.length s) : Int) ∧ (0 : Int) = x0.1 ∧ (↑(List.length s) : Int) = x0.2) ∧ pre x0 ∧ ∀ (x : Int × Int), pre x → (decide (x.1 < x.2) = true → (0 : Int) ≤ (1 : Int) ∧ ((0 : Int) ≤ IntKind.i64.wrap ((IntKind.u64.wrap (IntKind.i64.wrap (x.1 + x.2))).fdiv ((2 : Int) ^ min (Int.toNat (1 : Int)) IntKind.u64.bits)) ∧ IntKind.i64.wrap ((IntKind.u64.wrap (IntKind.i64.wrap (x.1 + x.2))).fdiv ((2 : Int) ^ min (Int.toNat (1 : Int)) IntKind.u64.bits)) < (↑(List.length s) : Int)) ∧ ∃ (b : Item × ByteArray), (((List.getD s (IntKind.i64.wrap ((IntKind.u64.wrap (IntKind.i64.wrap (x.1 + x.2))).fdiv ((2 : Int) ^ min (Int.toNat (1 : Int)) IntKind.u64.bits))).toNat dItem).key = b.1.key ∧ cnRs (typ (0 : Int) eI (List.getD s (IntKind.i64.wrap ((IntKind.u64.wrap (IntKind.i64.wrap (x.1 + x.2))).fdiv ((2 : Int) ^ min (Int.toNat (1 : Int)) IntKind.u64.bits))).toNat dItem).val) = cnRs (typ (0 : Int) eI b.1.val)) ∧ k = b.2) ∧ (decide (cmpB b.1.key b.2 < (0 : Int)) = true → ∃ (y : Int × Int), (cnRs (typ dItem eItemS s) = cnRs (typ dItem eItemS s) ∧ k = k ∧ Value.func (Fn.func (118 : FuncId)) { toList := [] } { toList := [] } = Value.func (Fn.func (118 : FuncId)) { toList := [] } { toList := [] } ∧ (↑(List.length s) : Int) = (↑(List.length s) : Int) ∧ IntKind.i64.wrap (IntKind.i64.wrap ((IntKind.u64.wrap (IntKind.i64.wrap (x.1 + x.2))).fdiv ((2 : Int) ^ min (Int.toNat (1 : Int)) IntKind.u64.bits)) + (1 : Int)) = y.1 ∧ x.2 = y.2) ∧ pre y ∧ μ y < μ x) ∧ (decide (cmpB b.1.key b.2 < (0 : Int)) = false → ∃ (y : Int × Int), (cnRs (typ dItem eItemS s) = cnRs (typ dItem eItemS s) ∧ k = k ∧ Value.func (Fn.func (118 : FuncId)) { toList := [] } { toList := [] } = Value.func (Fn.func (118 : FuncId)) { toList := [] } { toList := [] } ∧ (↑(List.length s) : Int) = (↑(List.length s) : Int) ∧ x.1 = y.1 ∧ IntKind.i64.wrap ((IntKind.u64.wrap (IntKind.i64.wrap (x.1 + x.2))).fdiv ((2 : Int) ^ min (Int.toNat (1 : Int)) IntKind.u64.bits)) = y.2) ∧ pre y ∧ μ y < μ x)) ∧ (decide (x.1 < x.2) = false → (decide (x.1 < (↑(List.length s) : Int)) = true → ((0 : Int) ≤ x.1 ∧ x.1 < (↑(List.length s) : Int)) ∧ ∃ (b : Item × ByteArray), (((List.getD s x.1.toNat dItem).key = b.1.key ∧ cnRs (typ (0 : Int) eI (List.getD s x.1.toNat dItem).val) = cnRs (typ (0 : Int) eI b.1.val)) ∧ k = b.2) ∧ x.1 = (↑(posS s k) : Int) ∧ (cmpB b.1.key b.2 == (0 : Int)) = hitS s k) ∧ (decide (x.1 < (↑(List.length s) : Int)) = false → x.1 = (↑(posS s k) : Int) ∧ false = hitS s k))) = _ by kernel_rfl) ?_
  simp only [cU, eU_iff, Prod.exists, Int.natCast_inj, and_assoc, exists_eq_left', exists_and_left, true_and, and_true, implies_true, and_self, bne_iff_ne, beq_iff_eq, beq_eq_false_iff_ne, ne_eq, forall_eq, Prod.forall, fi_eI, fi_eS, cI, nI_iff, cI_app, cItemO, cItemS, nItemO_iff, nItemS_iff, cWrtO, cWrtS, nWrtO_iff, nWrtS_iff, cStoO, cStoS, nStoO_iff, nStoS_iff, fItemO, fItemS, fWrtO, fWrtS, fStoO, fStoS, fI, frz_app, cWrtO_app, cWrtS_app, cWrtO_1, cItemO_1, opr_ex, zcast, cnRs_raw, cnRs_nil, frz_nil, nil_map, List.map_nil, Int.toNat_natCast, Bool.not_eq_true, Bool.not_eq_false, decide_eq_true_eq, decide_eq_false_iff_not, gt_iff_lt]
  have hn : s.length ≤ 40 := (stoB_small hpre).1
  have hp0 := pos_le s k
  refine ⟨fun x => ∃ i j : Nat, x = ((i : Int), (j : Int)) ∧ i ≤ posS s k ∧ posS s k ≤ j ∧ j ≤ s.length, ⟨0, s.length, rfl, by omega, hp0, by omega⟩, fun x => (x.2 - x.1).toNat, fun a b hp => ?_⟩
  obtain ⟨i, j, h0, h1, h2, h3⟩ := hp
  cases h0
  rw [half_eq (by omega) (by omega)]
  refine ⟨fun hlt => ?_, fun hge => ?_⟩
  · have hm : (i + j) / 2 < j := by omega
    obtain ⟨m, hmm⟩ : ∃ m, m = (i + j) / 2 := ⟨_, rfl⟩
    rw [← hmm] at hm ⊢
    rw [wrapN (by omega)]
    refine ⟨by omega, by omega, by omega, s.getD m dItem, rfl, rfl, fun hc => ?_, fun hc => ?_⟩
    · rw [cmp_neg, pos_lt hpre (by omega)] at hc
      exact ⟨⟨m + 1, j, rfl, by omega, by omega, by omega⟩, by simp only; omega⟩
    · rw [cmp_neg, pos_lt hpre (by omega)] at hc
      exact ⟨⟨i, m, rfl, by omega, by omega, by omega⟩, by simp only; omega⟩
  · have hij : i = j := by omega
    subst hij
    have hi : i = posS s k := by omega
    refine ⟨fun hlt => ⟨by omega, hlt, s.getD i dItem, rfl, rfl, by omega, ?_⟩, fun hge => ⟨by omega, ?_⟩⟩
    · rw [cmp_zero, hi]
      have : ltB (s.getD (posS s k) dItem).key k = false := by
        rw [← Bool.not_eq_true, pos_lt hpre (by omega)]; omega
      rw [this]
      simp [hitS, show posS s k < s.length by omega]
    · simp [hitS, show ¬ posS s k < s.length by omega]
def BinFind_c : Con Tryz.prog := ⟨117, 3, [.lend, .lend, .lend], [], Sto × ByteArray, some fun b => stoB b.1 = true, fun b => [(0, k1 (sItems b.1)), (1, kS b.2), (2, kF 118)], fun b => [(3, ⟨.tup [(false, 1), (false, 1)], [.c (.n .i64 (posS b.1 b.2)), .c (.b (hitS b.1 b.2))], []⟩)], [], fun b h => BinFind_ok (b.1) (b.2) h⟩
theorem StoFind_ok (s : Sto) (k : ByteArray) (hpre : stoB s = true) : FunOK Tryz.prog 92 2 [] [(0, kSto s), (1, kS k)] (· = [(2, ⟨.tup [(false, 1), (false, 1)], [.c (.n .i64 (posS s k)), .c (.b (hitS s k))], []⟩)]) := by
  refine fun_to (E := ⟨tab, ctOf [BinFind_c], 12, [], [(0, [1, 2]), (1, [4, 5])], [], [], [], []⟩) tab_ok mixed Tryz.func92 rfl Tryz.ntmps92 (rvs := [.tmp 4, .tmp 5]) Tryz.results92 rfl fun hl => ?_
  refine cast (show (∃ (b : Sto × ByteArray), (cnRs (typ dItem eItemS s) = cnRs (typ dItem eItemS b.1) ∧ k = b.2 ∧ Value.func (Fn.func (118 : Nat)) #[] #[] = Value.func (Fn.func (118 : FuncId)) { toList := [] } { toList := [] }) ∧ stoB b.1 = true ∧ (↑(posS b.1 b.2) : Int) = (↑(posS s k) : Int) ∧ hitS b.1 b.2 = hitS s k) = _ by kernel_rfl) ?_
  simp only [cU, eU_iff, Prod.exists, Int.natCast_inj, and_assoc, exists_eq_left', exists_and_left, true_and, and_true, implies_true, and_self, bne_iff_ne, beq_iff_eq, beq_eq_false_iff_ne, ne_eq, forall_eq, Prod.forall, fi_eI, fi_eS, cI, nI_iff, cI_app, cItemO, cItemS, nItemO_iff, nItemS_iff, cWrtO, cWrtS, nWrtO_iff, nWrtS_iff, cStoO, cStoS, nStoO_iff, nStoS_iff, fItemO, fItemS, fWrtO, fWrtS, fStoO, fStoS, fI, frz_app, cWrtO_app, cWrtS_app, cWrtO_1, cItemO_1, opr_ex, zcast, cnRs_raw, cnRs_nil, frz_nil, nil_map, List.map_nil, Int.toNat_natCast, Bool.not_eq_true, Bool.not_eq_false, decide_eq_true_eq, decide_eq_false_iff_not, gt_iff_lt]
  exact hpre
def StoFind_c : Con Tryz.prog := ⟨92, 2, [.lend, .lend], [], Sto × ByteArray, some fun b => stoB b.1 = true, fun b => [(0, kSto b.1), (1, kS b.2)], fun b => [(2, ⟨.tup [(false, 1), (false, 1)], [.c (.n .i64 (posS b.1 b.2)), .c (.b (hitS b.1 b.2))], []⟩)], [], fun b h => StoFind_ok (b.1) (b.2) h⟩
theorem StoGet1_ok (s : Sto) (k : ByteArray) (hpre : stoB s = true) : FunOK Tryz.prog 52 2 [] [(0, kSto s), (1, kS k)] (· = bif (getS s k).isNone then [(2, k1 (.vl (.slice none 0 0)))] else [(2, k1 (oI (getV s k)))]) := by
  refine fun_alt (E := ⟨tab, ctOf [slices_Clone_int_c, StoFind_c], 22, [], [(0, [1, 2, 21]), (1, [2, 5, 6, 21]), (2, [2, 5, 14, 21]), (3, [4, 21]), (4, [4, 21])], [], [], [], []⟩) tab_ok mixed Tryz.func52 rfl Tryz.ntmps52 (rvs := [.tmp 4]) Tryz.results52 rfl fun hl => ?_
  refine cast (show (∃ (b : Sto × ByteArray), (cnRs (typ dItem eItemS s) = cnRs (typ dItem eItemS b.1) ∧ k = b.2) ∧ stoB b.1 = true ∧ ((!hitS b.1 b.2) = true → (getS s k).isNone = true ∧ Value.slice none (0 : Nat) (0 : Nat) = Value.slice none (0 : Nat) (0 : Nat) ∨ (getS s k).isNone = false ∧ (getV s k).length = (0 : Nat)) ∧ ((!hitS b.1 b.2) = false → ((0 : Int) ≤ (↑(posS b.1 b.2) : Int) ∧ (↑(posS b.1 b.2) : Int) < (↑(List.length s) : Int)) ∧ ∃ (b_1 : List Int), cnRs (typ (0 : Int) eI (List.getD s (↑(posS b.1 b.2) : Int).toNat dItem).val) = cnRs (typ (0 : Int) eI b_1) ∧ ((0 : Nat) < b_1.length ∧ b_1.length ≤ (1000 : Nat)) ∧ ((getS s k).isNone = true ∧ False ∨ (getS s k).isNone = false ∧ cnRs (typ (0 : Int) eI b_1) = cnRs (typ (0 : Int) eI (getV s k))))) = _ by kernel_rfl) ?_
  simp only [cU, eU_iff, Prod.exists, Int.natCast_inj, and_assoc, exists_eq_left', exists_and_left, true_and, and_true, implies_true, and_self, bne_iff_ne, beq_iff_eq, beq_eq_false_iff_ne, ne_eq, forall_eq, Prod.forall, fi_eI, fi_eS, cI, nI_iff, cI_app, cItemO, cItemS, nItemO_iff, nItemS_iff, cWrtO, cWrtS, nWrtO_iff, nWrtS_iff, cStoO, cStoS, nStoO_iff, nStoS_iff, fItemO, fItemS, fWrtO, fWrtS, fStoO, fStoS, fI, frz_app, cWrtO_app, cWrtS_app, cWrtO_1, cItemO_1, opr_ex, zcast, cnRs_raw, cnRs_nil, frz_nil, nil_map, List.map_nil, Int.toNat_natCast, Bool.not_eq_true, Bool.not_eq_false, decide_eq_true_eq, decide_eq_false_iff_not, gt_iff_lt]
  have hg := hit_get hpre k
  refine ⟨hpre, fun hh => .inl ?_, fun hh => ?_⟩
  · rw [hg, show hitS s k = false by simpa using hh]; rfl
  · have hh : hitS s k = true := by simpa using hh
    have hp : posS s k < s.length := by simp only [hitS, Bool.and_eq_true, decide_eq_true_eq] at hh; exact hh.1
    have hv := item_val (sto_itAt hpre hp)
    rw [hh] at hg
    exact ⟨by omega, by omega, by omega, by omega, .inr ⟨by rw [hg]; rfl, by rw [getV, hg]; rfl⟩⟩
def StoGet1_c : Con Tryz.prog := ⟨52, 2, [.lend, .lend], [], Sto × ByteArray, some fun b => stoB b.1 = true, fun b => [(0, kSto b.1), (1, kS b.2)], fun b => [(2, k1 (oI (getV b.1 b.2)))], [(fun b => (getS b.1 b.2).isNone, fun b => [(2, k1 (.vl (.slice none 0 0)))])], fun b h => StoGet1_ok (b.1) (b.2) h⟩
theorem PlcBad_ok (x : Item) (p : Int) (hpre : itemB x = true) : FunOK Tryz.prog 68 2 [] [(0, kItem x), (1, k1 (.rp [.n .i64 p]))] (· = [(2, kB (!formI p x))]) := by
  refine fun_to (E := ⟨tab, ctOf [impl_itemOk_c], 8, [], [(0, [1, 2]), (1, [3])], [], [], [], []⟩) tab_ok mixed Tryz.func68 rfl Tryz.ntmps68 (rvs := [.tmp 3]) Tryz.results68 rfl fun hl => ?_
  refine cast (show (∃ (b : Int × Item), (p = b.1 ∧ x.key = b.2.key ∧ cnRs (typ (0 : Int) eI x.val) = cnRs (typ (0 : Int) eI b.2.val)) ∧ itemB b.2 = true ∧ (!formI b.1 b.2) = !formI p x) = _ by kernel_rfl) ?_
  simp only [cU, eU_iff, Prod.exists, Int.natCast_inj, and_assoc, exists_eq_left', exists_and_left, true_and, and_true, implies_true, and_self, bne_iff_ne, beq_iff_eq, beq_eq_false_iff_ne, ne_eq, forall_eq, Prod.forall, fi_eI, fi_eS, cI, nI_iff, cI_app, cItemO, cItemS, nItemO_iff, nItemS_iff, cWrtO, cWrtS, nWrtO_iff, nWrtS_iff, cStoO, cStoS, nStoO_iff, nStoS_iff, fItemO, fItemS, fWrtO, fWrtS, fStoO, fStoS, fI, frz_app, cWrtO_app, cWrtS_app, cWrtO_1, cItemO_1, opr_ex, zcast, cnRs_raw, cnRs_nil, frz_nil, nil_map, List.map_nil, Int.toNat_natCast, Bool.not_eq_true, Bool.not_eq_false, decide_eq_true_eq, decide_eq_false_iff_not, gt_iff_lt]
  exact ⟨x, rfl, rfl, hpre, rfl⟩
def PlcBad_c : Con Tryz.prog := ⟨68, 2, [.lend], [], Item × Int, some fun b => itemB b.1 = true, fun b => [(0, kItem b.1), (1, k1 (.rp [.n .i64 b.2]))], fun b => [(2, kB (!formI b.2 b.1))], [], fun b h => PlcBad_ok (b.1) (b.2) h⟩
theorem IndexItem_ok (s : Sto) (p : Int) (hpre : stoB s = true) : FunOK Tryz.prog 106 2 [] [(0, k1 (sItems s)), (1, k1 (.fn 68 [.rp [.n .i64 p]]))] (· = [(2, kI (idxOf (fun x => !formI p x) s))]) := by
  refine fun_to (E := ⟨tab, ctOf [PlcBad_c], 19, [], [(0, [0, 1]), (1, [0, 1, 7, 8]), (2, [0, 1, 7, 8, 9]), (3, [0, 1, 5, 7, 8]), (4, [0, 1, 5, 7, 8, 16]), (5, [4]), (6, [0, 1, 7, 8]), (7, [4])], [(0, ⟨Nat, fun x => [(0, ⟨.one, [.c (.sh 75 (typ dItem eItemS s))], []⟩), (1, ⟨.one, [.c (.fn 68 ([CV.rp [CV.n IntKind.i64 p]]))], []⟩), (7, ⟨.one, [.c (.n IntKind.i64 ((↑(List.length s) : Int)))], []⟩), (8, ⟨.one, [.c (.n IntKind.i64 (x : Int))], []⟩)]⟩)], [], [], []⟩) tab_ok mixed Tryz.func106 rfl Tryz.ntmps106 (rvs := [.tmp 4]) Tryz.results106 rfl fun hl => ?_
  refine cast (show (∃ (pre : Nat → Prop), ∃ (μ : Nat → Nat), ∃ (x0 : Nat), (cnRs (typ dItem eItemS s) = cnRs (typ dItem eItemS s) ∧ cnR [CV.rp [CV.n IntKind.i64 p]] = cnR [CV.rp [CV.n IntKind.i64 p]] ∧ (↑(List.length s) : Int) = (↑(List.length s) : Int) ∧ (0 : Int) = (↑x0 : Int)) ∧ pre x0 ∧ ∀ (x : Nat), pre x → (decide ((↑x : Int) < (↑(List.length s) : Int)) = true → ((0 : Int) ≤ (↑x : Int) ∧ (↑x : Int) < (↑(List.length s) : Int)) ∧ ∃ (b : Item × Int), (((List.getD s (↑x : Int).toNat dItem).key = b.1.key ∧ cnRs (typ (0 : Int) eI (List.getD s (↑x : Int).toNat dItem).val) = cnRs (typ (0 : Int) eI b.1.val)) ∧ cnR [CV.n IntKind.i64 p] = cnR [CV.n IntKind.i64 b.2]) ∧ itemB b.1 = true ∧ ((!formI b.2 b.1) = true → (↑x : Int) = idxOf (fun (x : Item) => !formI p x) s) ∧ ((!formI b.2 b.1) = false → ∃ (y : Nat), (cnRs (typ dItem eItemS s) = cnRs (typ dItem eItemS s) ∧ cnR [CV.rp [CV.n IntKind.i64 p]] = cnR [CV.rp [CV.n IntKind.i64 p]] ∧ (↑(List.length s) : Int) = (↑(List.length s) : Int) ∧ IntKind.i64.wrap ((↑x : Int) + (1 : Int)) = (↑y : Int)) ∧ pre y ∧ μ y < μ x)) ∧ (decide ((↑x : Int) < (↑(List.length s) : Int)) = false → (-1 : Int) = idxOf (fun (x : Item) => !formI p x) s)) = _ by kernel_rfl) ?_
  have hx : s.length ≤ 9223372036854775807 := hl.1 _ (List.mem_singleton.2 rfl)
  simp only [cU, eU_iff, Prod.exists, Int.natCast_inj, and_assoc, exists_eq_left', exists_and_left, true_and, and_true, implies_true, and_self, bne_iff_ne, beq_iff_eq, beq_eq_false_iff_ne, ne_eq, forall_eq, Prod.forall, fi_eI, fi_eS, cI, nI_iff, cI_app, cItemO, cItemS, nItemO_iff, nItemS_iff, cWrtO, cWrtS, nWrtO_iff, nWrtS_iff, cStoO, cStoS, nStoO_iff, nStoS_iff, fItemO, fItemS, fWrtO, fWrtS, fStoO, fStoS, fI, frz_app, cWrtO_app, cWrtS_app, cWrtO_1, cItemO_1, opr_ex, zcast, cnRs_raw, cnRs_nil, frz_nil, nil_map, List.map_nil, Int.toNat_natCast, Bool.not_eq_true, Bool.not_eq_false, decide_eq_true_eq, decide_eq_false_iff_not, gt_iff_lt]
  refine ⟨fun i => i ≤ s.length ∧ ∀ j, j < i → (!formI p (s.getD j dItem)) = false, ⟨by simp, fun j hj => absurd hj (Nat.not_lt_zero _)⟩, fun i => s.length - i, fun i hi => ?_⟩
  obtain ⟨h1, h2⟩ := hi
  refine ⟨fun hlt => ⟨by omega, by omega, s.getD i dItem, rfl, rfl, p, rfl, sto_itAt hpre (by omega), fun hp => ?_, fun hp => ⟨i + 1, wrapN (by omega), ⟨by omega, below_succ h2 hp⟩, by simp only; omega⟩⟩, fun hge => ?_⟩
  · exact (idx_hit (p := fun x => !formI p x) (by omega) hp h2).symm
  · exact (idx_miss (p := fun x => !formI p x) (d := dItem) fun j hj => h2 j (by omega)).symm
def IndexItem_c : Con Tryz.prog := ⟨106, 2, [.lend, .lend], [], Sto × Int, some fun b => stoB b.1 = true, fun b => [(0, k1 (sItems b.1)), (1, k1 (.fn 68 [.rp [.n .i64 b.2]]))], fun b => [(2, kI (idxOf (fun x => !formI b.2 x) b.1))], [], fun b h => IndexItem_ok (b.1) (b.2) h⟩
theorem ContainsItem_ok (s : Sto) (p : Int) (hpre : stoB s = true) : FunOK Tryz.prog 71 2 [] [(0, k1 (sItems s)), (1, k1 (.fn 68 [.rp [.n .i64 p]]))] (· = [(2, kB (s.any fun x => !formI p x))]) := by
  refine fun_to (E := ⟨tab, ctOf [IndexItem_c], 9, [], [(0, [0, 1]), (1, [4])], [], [], [], []⟩) tab_ok mixed Tryz.func71 rfl Tryz.ntmps71 (rvs := [.tmp 4]) Tryz.results71 rfl fun hl => ?_
  refine cast (show (∃ (b : Sto × Int), (cnRs (typ dItem eItemS s) = cnRs (typ dItem eItemS b.1) ∧ cnR [CV.rp [CV.n IntKind.i64 p]] = cnR [CV.rp [CV.n IntKind.i64 b.2]]) ∧ stoB b.1 = true ∧ decide (idxOf (fun (x : Item) => !formI b.2 x) b.1 ≥ (0 : Int)) = List.any s fun (x : Item) => !formI p x) = _ by kernel_rfl) ?_
  simp only [cU, eU_iff, Prod.exists, Int.natCast_inj, and_assoc, exists_eq_left', exists_and_left, true_and, and_true, implies_true, and_self, bne_iff_ne, beq_iff_eq, beq_eq_false_iff_ne, ne_eq, forall_eq, Prod.forall, fi_eI, fi_eS, cI, nI_iff, cI_app, cItemO, cItemS, nItemO_iff, nItemS_iff, cWrtO, cWrtS, nWrtO_iff, nWrtS_iff, cStoO, cStoS, nStoO_iff, nStoS_iff, fItemO, fItemS, fWrtO, fWrtS, fStoO, fStoS, fI, frz_app, cWrtO_app, cWrtS_app, cWrtO_1, cItemO_1, opr_ex, zcast, cnRs_raw, cnRs_nil, frz_nil, nil_map, List.map_nil, Int.toNat_natCast, Bool.not_eq_true, Bool.not_eq_false, decide_eq_true_eq, decide_eq_false_iff_not, gt_iff_lt]
  exact ⟨p, rfl, hpre, idx_ge _ _⟩
def ContainsItem_c : Con Tryz.prog := ⟨71, 2, [.lend, .lend], [], Sto × Int, some fun b => stoB b.1 = true, fun b => [(0, k1 (sItems b.1)), (1, k1 (.fn 68 [.rp [.n .i64 b.2]]))], fun b => [(2, kB (b.1.any fun x => !formI b.2 x))], [], fun b h => ContainsItem_ok (b.1) (b.2) h⟩
theorem impl_PlcOk_ok (p : Int) (s : Sto) : FunOK Tryz.prog 28 2 [] [(0, kI p), (1, kSto s)] (· = [(2, kB (plcB p s))]) := by
  refine fun_to (E := ⟨tab, ctOf [impl_StoOk_c, impl_isService_c, ContainsItem_c], 20, [], [(0, [2, 3]), (1, [2, 3, 5, 6]), (2, [4])], [], [], [], []⟩) tab_ok mixed Tryz.func28 rfl Tryz.ntmps28 (rvs := [.tmp 4]) Tryz.results28 rfl fun hl => ?_
  refine cast (show (∃ (b : Int), p = b ∧ (inR b (1 : Int) (3 : Int) = true → ∃ (b : List Item), cnRs (typ dItem eItemS s) = cnRs (typ dItem eItemS b) ∧ (stoB b = true → True ∧ ∃ (b : Sto × Int), (cnRs (typ dItem eItemS s) = cnRs (typ dItem eItemS b.1) ∧ cnR [CV.rp [CV.n IntKind.i64 p]] = cnR [CV.rp [CV.n IntKind.i64 b.2]]) ∧ stoB b.1 = true ∧ (!List.any b.1 fun (x : Item) => !formI b.2 x) = plcB p s) ∧ (stoB b = false → false = plcB p s)) ∧ (inR b (1 : Int) (3 : Int) = false → false = plcB p s)) = _ by kernel_rfl) ?_
  simp only [cU, eU_iff, Prod.exists, Int.natCast_inj, and_assoc, exists_eq_left', exists_and_left, true_and, and_true, implies_true, and_self, bne_iff_ne, beq_iff_eq, beq_eq_false_iff_ne, ne_eq, forall_eq, Prod.forall, fi_eI, fi_eS, cI, nI_iff, cI_app, cItemO, cItemS, nItemO_iff, nItemS_iff, cWrtO, cWrtS, nWrtO_iff, nWrtS_iff, cStoO, cStoS, nStoO_iff, nStoS_iff, fItemO, fItemS, fWrtO, fWrtS, fStoO, fStoS, fI, frz_app, cWrtO_app, cWrtS_app, cWrtO_1, cItemO_1, opr_ex, zcast, cnRs_raw, cnRs_nil, frz_nil, nil_map, List.map_nil, Int.toNat_natCast, Bool.not_eq_true, Bool.not_eq_false, decide_eq_true_eq, decide_eq_false_iff_not, gt_iff_lt]
  refine ⟨fun h1 => ⟨fun h2 => ⟨p, rfl, h2, ?_⟩, fun h2 => by simp [plcB, h2]⟩, fun h1 => by simp [plcB, h1]⟩
  simp [plcB, h1, h2, formB, List.all_eq_not_any_not]
def impl_PlcOk_c : Con Tryz.prog := ⟨28, 2, [.lend, .lend], [], Int × Sto, none, fun b => [(0, kI b.1), (1, kSto b.2)], fun b => [(2, kB (plcB b.1 b.2))], [], fun b h => impl_PlcOk_ok (b.1) (b.2)⟩
theorem IndexInt_ok (xs : List Int) (z : Int) : FunOK Tryz.prog 86 2 [] [(0, k1 (sI xs)), (1, kI z)] (· = [(2, kI (idxOf (fun x => z == x) xs))]) := by
  refine fun_to (E := ⟨tab, ctOf [], 19, [], [(0, [0, 1]), (1, [0, 1, 7, 8]), (2, [0, 1, 7, 8, 9]), (3, [0, 1, 5, 7, 8]), (4, [0, 1, 5, 7, 8, 16]), (5, [4]), (6, [0, 1, 7, 8]), (7, [4])], [(0, ⟨Nat, fun x => [(0, ⟨.one, [.c (.sh 3 (typ (0 : Int) eI xs))], []⟩), (1, ⟨.one, [.c (.n IntKind.i64 z)], []⟩), (7, ⟨.one, [.c (.n IntKind.i64 ((↑xs.length : Int)))], []⟩), (8, ⟨.one, [.c (.n IntKind.i64 (x : Int))], []⟩)]⟩)], [], [], []⟩) tab_ok mixed Tryz.func86 rfl Tryz.ntmps86 (rvs := [.tmp 4]) Tryz.results86 rfl fun hl => ?_
  refine cast (show (∃ (pre : Nat → Prop), ∃ (μ : Nat → Nat), ∃ (x0 : Nat), (cnRs (typ (0 : Int) eI xs) = cnRs (typ (0 : Int) eI xs) ∧ z = z ∧ (↑xs.length : Int) = (↑xs.length : Int) ∧ (0 : Int) = (↑x0 : Int)) ∧ pre x0 ∧ ∀ (x : Nat), pre x → (decide ((↑x : Int) < (↑xs.length : Int)) = true → ((0 : Int) ≤ (↑x : Int) ∧ (↑x : Int) < (↑xs.length : Int)) ∧ ((z == xs.getD (↑x : Int).toNat (0 : Int)) = true → (↑x : Int) = idxOf (fun (x : Int) => z == x) xs) ∧ ((z == xs.getD (↑x : Int).toNat (0 : Int)) = false → ∃ (y : Nat), (cnRs (typ (0 : Int) eI xs) = cnRs (typ (0 : Int) eI xs) ∧ z = z ∧ (↑xs.length : Int) = (↑xs.length : Int) ∧ IntKind.i64.wrap ((↑x : Int) + (1 : Int)) = (↑y : Int)) ∧ pre y ∧ μ y < μ x)) ∧ (decide ((↑x : Int) < (↑xs.length : Int)) = false → (-1 : Int) = idxOf (fun (x : Int) => z == x) xs)) = _ by kernel_rfl) ?_
  have hx : xs.length ≤ 9223372036854775807 := hl.1 _ (List.mem_singleton.2 rfl)
  simp only [cU, eU_iff, Prod.exists, Int.natCast_inj, and_assoc, exists_eq_left', exists_and_left, true_and, and_true, implies_true, and_self, bne_iff_ne, beq_iff_eq, beq_eq_false_iff_ne, ne_eq, forall_eq, Prod.forall, fi_eI, fi_eS, cI, nI_iff, cI_app, cItemO, cItemS, nItemO_iff, nItemS_iff, cWrtO, cWrtS, nWrtO_iff, nWrtS_iff, cStoO, cStoS, nStoO_iff, nStoS_iff, fItemO, fItemS, fWrtO, fWrtS, fStoO, fStoS, fI, frz_app, cWrtO_app, cWrtS_app, cWrtO_1, cItemO_1, opr_ex, zcast, cnRs_raw, cnRs_nil, frz_nil, nil_map, List.map_nil, Int.toNat_natCast, Bool.not_eq_true, Bool.not_eq_false, decide_eq_true_eq, decide_eq_false_iff_not, gt_iff_lt]
  refine ⟨fun i => i ≤ xs.length ∧ ∀ j, j < i → (z == (xs.getD j 0)) = false, ⟨by simp, fun j hj => absurd hj (Nat.not_lt_zero _)⟩, fun i => xs.length - i, fun i hi => ?_⟩
  obtain ⟨h1, h2⟩ := hi
  refine ⟨fun hlt => ⟨by omega, by omega, fun hp => ?_, fun hp => ⟨i + 1, wrapN (by omega), ⟨by omega, below_succ h2 (by simpa using hp)⟩, by simp only; omega⟩⟩, fun hge => ?_⟩
  · exact (idx_hit (p := fun x => z == x) (d := 0) (by omega) (by simpa using hp) h2).symm
  · exact (idx_miss (p := fun x => z == x) (d := 0) fun j hj => h2 j (by omega)).symm
def IndexInt_c : Con Tryz.prog := ⟨86, 2, [.lend, .lend], [], List Int × Int, none, fun b => [(0, k1 (sI b.1)), (1, kI b.2)], fun b => [(2, kI (idxOf (fun x => b.2 == x) b.1))], [], fun b h => IndexInt_ok (b.1) (b.2)⟩
theorem ContainsInt_ok (xs : List Int) (z : Int) : FunOK Tryz.prog 48 2 [] [(0, k1 (sI xs)), (1, kI z)] (· = [(2, kB (xs.any fun x => z == x))]) := by
  refine fun_to (E := ⟨tab, ctOf [IndexInt_c], 9, [], [(0, [0, 1]), (1, [4])], [], [], [], []⟩) tab_ok mixed Tryz.func48 rfl Tryz.ntmps48 (rvs := [.tmp 4]) Tryz.results48 rfl fun hl => ?_
  refine cast (show (∃ (b : List Int × Int), (cnRs (typ (0 : Int) eI xs) = cnRs (typ (0 : Int) eI b.1) ∧ z = b.2) ∧ decide (idxOf (fun (x : Int) => b.2 == x) b.1 ≥ (0 : Int)) = xs.any fun (x : Int) => z == x) = _ by kernel_rfl) ?_
  simp only [cU, eU_iff, Prod.exists, Int.natCast_inj, and_assoc, exists_eq_left', exists_and_left, true_and, and_true, implies_true, and_self, bne_iff_ne, beq_iff_eq, beq_eq_false_iff_ne, ne_eq, forall_eq, Prod.forall, fi_eI, fi_eS, cI, nI_iff, cI_app, cItemO, cItemS, nItemO_iff, nItemS_iff, cWrtO, cWrtS, nWrtO_iff, nWrtS_iff, cStoO, cStoS, nStoO_iff, nStoS_iff, fItemO, fItemS, fWrtO, fWrtS, fStoO, fStoS, fI, frz_app, cWrtO_app, cWrtS_app, cWrtO_1, cItemO_1, opr_ex, zcast, cnRs_raw, cnRs_nil, frz_nil, nil_map, List.map_nil, Int.toNat_natCast, Bool.not_eq_true, Bool.not_eq_false, decide_eq_true_eq, decide_eq_false_iff_not, gt_iff_lt]
  exact idx_ge _ _
def ContainsInt_c : Con Tryz.prog := ⟨48, 2, [.lend, .lend], [], List Int × Int, none, fun b => [(0, k1 (sI b.1)), (1, kI b.2)], fun b => [(2, kB (b.1.any fun x => b.2 == x))], [], fun b h => ContainsInt_ok (b.1) (b.2)⟩
end Go.Proofs.AI
