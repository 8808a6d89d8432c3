/- Data and contracts. Conditions: none. -/
import Derived.KernelRfl
import Derived.Test.YtcmjdjomidhdnaaGreatDoorGloG
namespace Go.Proofs.AI
open Go.RowKit Go.Proofs
set_option linter.unusedVariables false
set_option linter.unusedSimpArgs false
set_option maxRecDepth 100000
theorem kd_nat {c : UInt8} {n : Int} (h : 0 ≤ n ∧ n ≤ 9) : ByteArray.mk #[c] ++ natS n.toNat = kd c n := by
  rw [natS_lt (by omega), show ((n.toNat : Nat) : Int) = n by omega]; rfl
theorem cS_eq {a b : List ByteArray} : cnRs (typ ByteArray.empty eS a) = cnRs (typ ByteArray.empty eS b) ↔ a = b := by
  rw [cnRs_typ, cnRs_typ]
  constructor
  · intro h
    exact (List.map_inj_right (f := fun x => cnR (eS x)) (fun x y h => by simpa [eS] using h)).1 h
  · rintro rfl; rfl
theorem wr_cons {k : ByteArray} {d : Bool} {v : List Int} {r : List (List CV)} {x : List Wrt} : List.map cnR ([CV.s k, CV.b d, CV.ow 3 (typ 0 eI v)] :: r) = List.map nWrtO x ↔ ∃ y, x = ⟨k, d, v⟩ :: y ∧ List.map cnR r = List.map nWrtO y := by
  have e : cnR [CV.s k, CV.b d, CV.ow 3 (typ 0 eI v)] = nWrtO ⟨k, d, v⟩ := by simp [nWrtO, cI]
  rw [List.map_cons, e]
  constructor
  · intro h
    cases x with
    | nil => simp at h
    | cons w y =>
      simp only [List.map_cons, List.cons.injEq] at h
      have h1 : [(⟨k, d, v⟩ : Wrt)] = [w] := nWrtO_iff.1 (by simp only [List.map_cons, List.map_nil, h.1])
      exact ⟨y, by rw [List.cons.inj h1 |>.1], h.2⟩
  · rintro ⟨y, rfl, h⟩; rw [List.map_cons, h]
theorem wr_cnil {k : ByteArray} {d : Bool} {r : List (List CV)} {x : List Wrt} : List.map cnR ([CV.s k, CV.b d, CV.ow 3 nilR] :: r) = List.map nWrtO x ↔ ∃ y, x = ⟨k, d, []⟩ :: y ∧ List.map cnR r = List.map nWrtO y := by
  rw [← wr_cons]
  have : cnR [CV.s k, CV.b d, CV.ow 3 nilR] = cnR [CV.s k, CV.b d, CV.ow 3 (typ 0 eI [])] := by simp [cI]
  rw [List.map_cons, List.map_cons, this]
theorem wr_nil {x : List Wrt} : List.map cnR ([] : List (List CV)) = List.map nWrtO x ↔ x = [] := by
  rw [List.map_nil]; cases x <;> simp
theorem i1 : (if (True : Prop) then true else false) = true := rfl
theorem i2 : (if (True : Prop) then false else true) = false := rfl
theorem i3 : (if (false = true) then true else false) = false := rfl
theorem i5 : (if (False : Prop) then true else false) = false := rfl
theorem i6 : (if (False : Prop) then false else true) = true := rfl
theorem i4 : (if (false = true) then false else true) = true := rfl
theorem impl_atIn_ok (s : Sto) (o : Opr) (hpre : plcB 1 s = true ∧ opOk o = true) : FunOK Tryz.prog 49 2 [] [(0, kSto s), (1, kOp o)] (· = [(2, kPlan (inP s o))]) := by
  refine fun_to (E := ⟨tab, ctOf [impl_named_c, StoGet1_c, impl_refused_c, impl_done_c, impl_set_c], 57, [], [(0, [2, 3, 4, 20, 29, 43, 53, 56]), (1, [2, 3, 4, 5, 20, 29, 43, 53, 56]), (2, [3, 4, 5, 6, 12, 20, 29, 43, 53, 56]), (3, [3, 4, 5, 6, 12, 15, 20, 29, 43, 53, 56]), (4, [3, 4, 5, 17, 20, 29, 43, 53, 56]), (5, [4, 20, 29, 43, 53, 56]), (6, [4, 20, 29, 43, 53, 56]), (7, [3, 4, 5, 20, 29, 30, 43, 53, 56]), (8, [4, 20, 29, 43, 53, 56]), (9, [4, 5, 20, 29, 43, 44, 53, 56]), (10, [4, 20, 29, 43, 53, 56]), (11, [4, 20, 29, 43, 53, 56])], [], [(4, [(1000000, [])])], [], []⟩) tab_ok mixed Tryz.func49 rfl Tryz.ntmps49 (rvs := [.cell 4 41]) Tryz.results49 rfl fun hl => ?_
  refine cast (show (∃ (b : ByteArray × Int), ((ByteArray.mk #[(115 : UInt8)]) = b.1 ∧ o.inn = b.2) ∧ ((0 : Int) ≤ b.2 ∧ b.2 < (100 : Int) ∧ b.1.size ≤ (10 : Nat)) ∧ ∃ (b_1 : Sto × ByteArray), (cnRs (typ dItem eItemS s) = cnRs (typ dItem eItemS b_1.1) ∧ b.1 ++ natS b.2.toNat = b_1.2) ∧ stoB b_1.1 = true ∧ ((getS b_1.1 b_1.2).isNone = true → ((o.kind == (1 : Int)) = true → True ∧ ((if true = true then false else true) = true → ∃ (b_2 : List ByteArray), cnRs (typ ByteArray.empty (fun (y : ByteArray) => [CV.s y]) [b.1 ++ natS b.2.toNat]) = cnRs (typ ByteArray.empty eS b_2) ∧ (noP b_2).ok = (inP s o).ok ∧ cnRs (typ ByteArray.empty eS (noP b_2).locks) = cnRs (typ ByteArray.empty eS (inP s o).locks) ∧ cnRs (typ dWrt eWrtO (noP b_2).writes) = cnRs (typ dWrt eWrtO (inP s o).writes)) ∧ ((if true = true then false else true) = false → ∃ (b_2 : ByteArray × List Int), (b.1 ++ natS b.2.toNat = b_2.1 ∧ cnRs (typ (0 : Int) (fun (y : Int) => [CV.n IntKind.i64 y]) [o.who]) = cnRs (typ (0 : Int) eI b_2.2)) ∧ ∃ (b_3 : List ByteArray × List Wrt), (cnRs (typ ByteArray.empty (fun (y : ByteArray) => [CV.s y]) [b.1 ++ natS b.2.toNat]) = cnRs (typ ByteArray.empty eS b_3.1) ∧ cnRs (raw [[CV.s b_2.1, CV.b false, CV.ow (3 : Nat) (typ (0 : Int) eI b_2.2)]]) = cnRs (typ dWrt eWrtO b_3.2)) ∧ true = (inP s o).ok ∧ cnRs (typ ByteArray.empty eS b_3.1) = cnRs (typ ByteArray.empty eS (inP s o).locks) ∧ cnRs (typ dWrt eWrtO b_3.2) = cnRs (typ dWrt eWrtO (inP s o).writes))) ∧ ((o.kind == (1 : Int)) = false → True ∧ ((if false = true then false else true) = false → False) ∧ ((if false = true then false else true) = true → ∃ (b_2 : List ByteArray), cnRs (typ ByteArray.empty (fun (y : ByteArray) => [CV.s y]) [b.1 ++ natS b.2.toNat]) = cnRs (typ ByteArray.empty eS b_2) ∧ (noP b_2).ok = (inP s o).ok ∧ cnRs (typ ByteArray.empty eS (noP b_2).locks) = cnRs (typ ByteArray.empty eS (inP s o).locks) ∧ cnRs (typ dWrt eWrtO (noP b_2).writes) = cnRs (typ dWrt eWrtO (inP s o).writes)))) ∧ ((getS b_1.1 b_1.2).isNone = false → ((o.kind == (1 : Int)) = true → (0 : Nat) < (getV b_1.1 b_1.2).length ∧ ((if true = true then true else false) = true → ∃ (b_2 : List ByteArray), cnRs (typ ByteArray.empty (fun (y : ByteArray) => [CV.s y]) [b.1 ++ natS b.2.toNat]) = cnRs (typ ByteArray.empty eS b_2) ∧ (noP b_2).ok = (inP s o).ok ∧ cnRs (typ ByteArray.empty eS (noP b_2).locks) = cnRs (typ ByteArray.empty eS (inP s o).locks) ∧ cnRs (typ dWrt eWrtO (noP b_2).writes) = cnRs (typ dWrt eWrtO (inP s o).writes)) ∧ ((if true = true then true else false) = false → ∃ (b_2 : ByteArray × List Int), (b.1 ++ natS b.2.toNat = b_2.1 ∧ cnRs (typ (0 : Int) (fun (y : Int) => [CV.n IntKind.i64 y]) [o.who]) = cnRs (typ (0 : Int) eI b_2.2)) ∧ ∃ (b_3 : List ByteArray × List Wrt), (cnRs (typ ByteArray.empty (fun (y : ByteArray) => [CV.s y]) [b.1 ++ natS b.2.toNat]) = cnRs (typ ByteArray.empty eS b_3.1) ∧ cnRs (raw [[CV.s b_2.1, CV.b false, CV.ow (3 : Nat) (typ (0 : Int) eI b_2.2)]]) = cnRs (typ dWrt eWrtO b_3.2)) ∧ true = (inP s o).ok ∧ cnRs (typ ByteArray.empty eS b_3.1) = cnRs (typ ByteArray.empty eS (inP s o).locks) ∧ cnRs (typ dWrt eWrtO b_3.2) = cnRs (typ dWrt eWrtO (inP s o).writes))) ∧ ((o.kind == (1 : Int)) = false → (0 : Nat) < (getV b_1.1 b_1.2).length ∧ ((if false = true then true else false) = false → ((0 : Int) ≤ (0 : Int) ∧ (0 : Int) < (↑(getV b_1.1 b_1.2).length : Int)) ∧ (0 : Nat) < (getV b_1.1 b_1.2).length ∧ (((getV b_1.1 b_1.2).getD (0 : Nat) (0 : Int) != o.who) = true → ∃ (b_2 : List ByteArray), cnRs (typ ByteArray.empty (fun (y : ByteArray) => [CV.s y]) [b.1 ++ natS b.2.toNat]) = cnRs (typ ByteArray.empty eS b_2) ∧ (noP b_2).ok = (inP s o).ok ∧ cnRs (typ ByteArray.empty eS (noP b_2).locks) = cnRs (typ ByteArray.empty eS (inP s o).locks) ∧ cnRs (typ dWrt eWrtO (noP b_2).writes) = cnRs (typ dWrt eWrtO (inP s o).writes)) ∧ (((getV b_1.1 b_1.2).getD (0 : Nat) (0 : Int) != o.who) = false → ((o.kind == (5 : Int)) = true → ∃ (b_2 : List ByteArray × List Wrt), (cnRs (typ ByteArray.empty (fun (y : ByteArray) => [CV.s y]) [b.1 ++ natS b.2.toNat]) = cnRs (typ ByteArray.empty eS b_2.1) ∧ cnRs (raw [[CV.s (b.1 ++ natS b.2.toNat), CV.b true, CV.ow (3 : Nat) nilR]]) = cnRs (typ dWrt eWrtO b_2.2)) ∧ true = (inP s o).ok ∧ cnRs (typ ByteArray.empty eS b_2.1) = cnRs (typ ByteArray.empty eS (inP s o).locks) ∧ cnRs (typ dWrt eWrtO b_2.2) = cnRs (typ dWrt eWrtO (inP s o).writes)) ∧ ((o.kind == (5 : Int)) = false → ∃ (b_2 : List ByteArray × List Wrt), (cnRs (typ ByteArray.empty (fun (y : ByteArray) => [CV.s y]) [b.1 ++ natS b.2.toNat]) = cnRs (typ ByteArray.empty eS b_2.1) ∧ b_2.2.length = (0 : Nat)) ∧ true = (inP s o).ok ∧ cnRs (typ ByteArray.empty eS b_2.1) = cnRs (typ ByteArray.empty eS (inP s o).locks) ∧ cnRs (typ dWrt eWrtO b_2.2) = cnRs (typ dWrt eWrtO (inP s o).writes)))) ∧ ((if false = true then true else false) = true → ∃ (b_2 : List ByteArray), cnRs (typ ByteArray.empty (fun (y : ByteArray) => [CV.s y]) [b.1 ++ natS b.2.toNat]) = cnRs (typ ByteArray.empty eS b_2) ∧ (noP b_2).ok = (inP s o).ok ∧ cnRs (typ ByteArray.empty eS (noP b_2).locks) = cnRs (typ ByteArray.empty eS (inP s o).locks) ∧ cnRs (typ dWrt eWrtO (noP b_2).writes) = cnRs (typ dWrt eWrtO (inP s o).writes))))) = _ by kernel_rfl) ?_
  obtain ⟨hp, ho⟩ := hpre
  simp only [cU, eU_iff, Prod.exists, Int.natCast_inj, and_assoc, exists_eq_left', exists_and_left, true_and, and_true, implies_true, and_self, bne_iff_ne, beq_iff_eq, beq_eq_false_iff_ne, ne_eq, forall_eq, Prod.forall, fi_eI, fi_eS, cI, nI_iff, cI_app, cItemO, cItemS, nItemO_iff, nItemS_iff, cWrtO, cWrtS, nWrtO_iff, nWrtS_iff, cStoO, cStoS, nStoO_iff, nStoS_iff, fItemO, fItemS, fWrtO, fWrtS, fStoO, fStoS, fI, frz_app, cWrtO_app, cWrtS_app, cWrtO_1, cItemO_1, opr_ex, zcast, cnRs_raw, cnRs_nil, frz_nil, nil_map, List.map_nil, Int.toNat_natCast, Bool.not_eq_true, Bool.not_eq_false, decide_eq_true_eq, decide_eq_false_iff_not, gt_iff_lt, cS_eq, wr_cons, wr_cnil, wr_nil, i1, i2, i3, i4, i5, i6, exists_eq_left, exists_eq_left', reduceCtorEq, forall_const, false_implies, true_implies, and_true, true_and, Bool.true_eq_false, Bool.false_eq_true]
  have hn := op_nums ho
  rw [kd_nat (c := 115) (by omega)]
  have hs := plc_sto hp
  have hg := fun v => get_in hp (k := kd 115 o.inn) (v := v)
  refine ⟨by omega, by omega, by decide, hs, ?_⟩
  simp only [inP, hasV, getV]
  rcases opt_cases (getS s (kd 115 o.inn)) with hk | ⟨v, hk⟩
  · by_cases hkind : o.kind = 1 <;> simp [noP, hkind, hk]
  · obtain ⟨a, rfl⟩ := List.length_eq_one_iff.1 (hg v hk)
    by_cases hkind : o.kind = 1 <;> by_cases h1 : a = o.who <;> by_cases h5 : o.kind = 5 <;> simp_all [noP]
def impl_atIn_c : Con Tryz.prog := ⟨49, 2, [.lend, .lend], [], Sto × Opr, some fun b => plcB 1 b.1 = true ∧ opOk b.2 = true, fun b => [(0, kSto b.1), (1, kOp b.2)], fun b => [(2, kPlan (inP b.1 b.2))], [], fun b h => impl_atIn_ok (b.1) (b.2) h⟩
theorem impl_trade_ok (s : Sto) (o : Opr) (hpre : plcB 2 s = true ∧ opOk o = true) : FunOK Tryz.prog 87 2 [] [(0, kSto s), (1, kOp o)] (· = [(2, kPlan (tradeP s o))]) := by
  refine fun_to (E := ⟨tab, ctOf [impl_named_c, StoGet1_c, impl_refused_c, impl_done_c, impl_set_c, impl_SecSum_c], 55, [], [(0, [2, 3, 4, 37, 54]), (1, [2, 3, 4, 5, 6, 37, 54]), (2, [2, 3, 4, 5, 6, 7, 16, 37, 54]), (3, [4, 5, 6, 7, 16, 33, 37, 54]), (4, [4, 37, 54]), (5, [4, 37, 54])], [], [], [], []⟩) tab_ok mixed Tryz.func87 rfl Tryz.ntmps87 (rvs := [.cell 4 41]) Tryz.results87 rfl fun hl => ?_
  refine cast (show (∃ (b : ByteArray × Int), ((ByteArray.mk #[(99 : UInt8)]) = b.1 ∧ o.code = b.2) ∧ ((0 : Int) ≤ b.2 ∧ b.2 < (100 : Int) ∧ b.1.size ≤ (10 : Nat)) ∧ ∃ (b_1 : ByteArray × Int), ((ByteArray.mk #[(102 : UInt8)]) = b_1.1 ∧ o.fam = b_1.2) ∧ ((0 : Int) ≤ b_1.2 ∧ b_1.2 < (100 : Int) ∧ b_1.1.size ≤ (10 : Nat)) ∧ ∃ (b_2 : Sto × ByteArray), (cnRs (typ dItem eItemS s) = cnRs (typ dItem eItemS b_2.1) ∧ b.1 ++ natS b.2.toNat = b_2.2) ∧ stoB b_2.1 = true ∧ ((getS b_2.1 b_2.2).isNone = true → True ∧ ((if false = true then false else true) = false → ∃ (b_3 : Sto × ByteArray), (cnRs (typ dItem eItemS s) = cnRs (typ dItem eItemS b_3.1) ∧ b_1.1 ++ natS b_1.2.toNat = b_3.2) ∧ stoB b_3.1 = true ∧ ((getS b_3.1 b_3.2).isNone = true → True ∧ ((if true = true then false else true) = false → ∃ (b : Int), o.sec = b ∧ False) ∧ ((if true = true then false else true) = true → ∃ (b_4 : List ByteArray), cnRs (typ ByteArray.empty (fun (y : ByteArray) => [CV.s y]) [b.1 ++ natS b.2.toNat, b_1.1 ++ natS b_1.2.toNat]) = cnRs (typ ByteArray.empty eS b_4) ∧ (noP b_4).ok = (tradeP s o).ok ∧ cnRs (typ ByteArray.empty eS (noP b_4).locks) = cnRs (typ ByteArray.empty eS (tradeP s o).locks) ∧ cnRs (typ dWrt eWrtO (noP b_4).writes) = cnRs (typ dWrt eWrtO (tradeP s o).writes))) ∧ ((getS b_3.1 b_3.2).isNone = false → (0 : Nat) < (getV b_3.1 b_3.2).length ∧ ((if true = true then true else false) = false → ∃ (b : Int), o.sec = b ∧ False) ∧ ((if true = true then true else false) = true → ∃ (b_4 : List ByteArray), cnRs (typ ByteArray.empty (fun (y : ByteArray) => [CV.s y]) [b.1 ++ natS b.2.toNat, b_1.1 ++ natS b_1.2.toNat]) = cnRs (typ ByteArray.empty eS b_4) ∧ (noP b_4).ok = (tradeP s o).ok ∧ cnRs (typ ByteArray.empty eS (noP b_4).locks) = cnRs (typ ByteArray.empty eS (tradeP s o).locks) ∧ cnRs (typ dWrt eWrtO (noP b_4).writes) = cnRs (typ dWrt eWrtO (tradeP s o).writes)))) ∧ ((if false = true then false else true) = true → ∃ (b_3 : List ByteArray), cnRs (typ ByteArray.empty (fun (y : ByteArray) => [CV.s y]) [b.1 ++ natS b.2.toNat, b_1.1 ++ natS b_1.2.toNat]) = cnRs (typ ByteArray.empty eS b_3) ∧ (noP b_3).ok = (tradeP s o).ok ∧ cnRs (typ ByteArray.empty eS (noP b_3).locks) = cnRs (typ ByteArray.empty eS (tradeP s o).locks) ∧ cnRs (typ dWrt eWrtO (noP b_3).writes) = cnRs (typ dWrt eWrtO (tradeP s o).writes))) ∧ ((getS b_2.1 b_2.2).isNone = false → (0 : Nat) < (getV b_2.1 b_2.2).length ∧ ((if false = true then true else false) = false → ∃ (b_3 : Sto × ByteArray), (cnRs (typ dItem eItemS s) = cnRs (typ dItem eItemS b_3.1) ∧ b_1.1 ++ natS b_1.2.toNat = b_3.2) ∧ stoB b_3.1 = true ∧ ((getS b_3.1 b_3.2).isNone = true → True ∧ ((if true = true then false else true) = false → ∃ (b_4 : Int), o.sec = b_4 ∧ ((0 : Int) ≤ (1 : Int) ∧ (1 : Int) < (↑(getV b_2.1 b_2.2).length : Int)) ∧ (1 : Nat) < (getV b_2.1 b_2.2).length ∧ ((secB b_4 != (getV b_2.1 b_2.2).getD (1 : Nat) (0 : Int)) = true → ∃ (b_5 : List ByteArray), cnRs (typ ByteArray.empty (fun (y : ByteArray) => [CV.s y]) [b.1 ++ natS b.2.toNat, b_1.1 ++ natS b_1.2.toNat]) = cnRs (typ ByteArray.empty eS b_5) ∧ (noP b_5).ok = (tradeP s o).ok ∧ cnRs (typ ByteArray.empty eS (noP b_5).locks) = cnRs (typ ByteArray.empty eS (tradeP s o).locks) ∧ cnRs (typ dWrt eWrtO (noP b_5).writes) = cnRs (typ dWrt eWrtO (tradeP s o).writes)) ∧ ((secB b_4 != (getV b_2.1 b_2.2).getD (1 : Nat) (0 : Int)) = false → ((0 : Int) ≤ (0 : Int) ∧ (0 : Int) < (↑(getV b_2.1 b_2.2).length : Int)) ∧ (0 : Nat) < (getV b_2.1 b_2.2).length ∧ ∃ (b_5 : ByteArray × Int), ((ByteArray.mk #[(117 : UInt8)]) = b_5.1 ∧ (getV b_2.1 b_2.2).getD (0 : Nat) (0 : Int) = b_5.2) ∧ ((0 : Int) ≤ b_5.2 ∧ b_5.2 < (100 : Int) ∧ b_5.1.size ≤ (10 : Nat)) ∧ ((0 : Int) ≤ (0 : Int) ∧ (0 : Int) < (↑(getV b_2.1 b_2.2).length : Int)) ∧ (0 : Nat) < (getV b_2.1 b_2.2).length ∧ ∃ (b_6 : ByteArray × List Int), (b_1.1 ++ natS b_1.2.toNat = b_6.1 ∧ cnRs (typ (0 : Int) (fun (y : Int) => [CV.n IntKind.i64 y]) [(getV b_2.1 b_2.2).getD (0 : Nat) (0 : Int), (1 : Int), (1 : Int)]) = cnRs (typ (0 : Int) eI b_6.2)) ∧ ∃ (b_7 : List ByteArray × List Wrt), (cnRs (typ ByteArray.empty (fun (y : ByteArray) => [CV.s y]) [b.1 ++ natS b.2.toNat, b_1.1 ++ natS b_1.2.toNat, b_5.1 ++ natS b_5.2.toNat]) = cnRs (typ ByteArray.empty eS b_7.1) ∧ cnRs (raw [[CV.s (b.1 ++ natS b.2.toNat), CV.b true, CV.ow (3 : Nat) nilR], [CV.s b_6.1, CV.b false, CV.ow (3 : Nat) (typ (0 : Int) eI b_6.2)]]) = cnRs (typ dWrt eWrtO b_7.2)) ∧ true = (tradeP s o).ok ∧ cnRs (typ ByteArray.empty eS b_7.1) = cnRs (typ ByteArray.empty eS (tradeP s o).locks) ∧ cnRs (typ dWrt eWrtO b_7.2) = cnRs (typ dWrt eWrtO (tradeP s o).writes))) ∧ ((if true = true then false else true) = true → ∃ (b_4 : List ByteArray), cnRs (typ ByteArray.empty (fun (y : ByteArray) => [CV.s y]) [b.1 ++ natS b.2.toNat, b_1.1 ++ natS b_1.2.toNat]) = cnRs (typ ByteArray.empty eS b_4) ∧ (noP b_4).ok = (tradeP s o).ok ∧ cnRs (typ ByteArray.empty eS (noP b_4).locks) = cnRs (typ ByteArray.empty eS (tradeP s o).locks) ∧ cnRs (typ dWrt eWrtO (noP b_4).writes) = cnRs (typ dWrt eWrtO (tradeP s o).writes))) ∧ ((getS b_3.1 b_3.2).isNone = false → (0 : Nat) < (getV b_3.1 b_3.2).length ∧ ((if true = true then true else false) = false → ∃ (b_4 : Int), o.sec = b_4 ∧ ((0 : Int) ≤ (1 : Int) ∧ (1 : Int) < (↑(getV b_2.1 b_2.2).length : Int)) ∧ (1 : Nat) < (getV b_2.1 b_2.2).length ∧ ((secB b_4 != (getV b_2.1 b_2.2).getD (1 : Nat) (0 : Int)) = true → ∃ (b_5 : List ByteArray), cnRs (typ ByteArray.empty (fun (y : ByteArray) => [CV.s y]) [b.1 ++ natS b.2.toNat, b_1.1 ++ natS b_1.2.toNat]) = cnRs (typ ByteArray.empty eS b_5) ∧ (noP b_5).ok = (tradeP s o).ok ∧ cnRs (typ ByteArray.empty eS (noP b_5).locks) = cnRs (typ ByteArray.empty eS (tradeP s o).locks) ∧ cnRs (typ dWrt eWrtO (noP b_5).writes) = cnRs (typ dWrt eWrtO (tradeP s o).writes)) ∧ ((secB b_4 != (getV b_2.1 b_2.2).getD (1 : Nat) (0 : Int)) = false → ((0 : Int) ≤ (0 : Int) ∧ (0 : Int) < (↑(getV b_2.1 b_2.2).length : Int)) ∧ (0 : Nat) < (getV b_2.1 b_2.2).length ∧ ∃ (b_5 : ByteArray × Int), ((ByteArray.mk #[(117 : UInt8)]) = b_5.1 ∧ (getV b_2.1 b_2.2).getD (0 : Nat) (0 : Int) = b_5.2) ∧ ((0 : Int) ≤ b_5.2 ∧ b_5.2 < (100 : Int) ∧ b_5.1.size ≤ (10 : Nat)) ∧ ((0 : Int) ≤ (0 : Int) ∧ (0 : Int) < (↑(getV b_2.1 b_2.2).length : Int)) ∧ (0 : Nat) < (getV b_2.1 b_2.2).length ∧ ∃ (b_6 : ByteArray × List Int), (b_1.1 ++ natS b_1.2.toNat = b_6.1 ∧ cnRs (typ (0 : Int) (fun (y : Int) => [CV.n IntKind.i64 y]) [(getV b_2.1 b_2.2).getD (0 : Nat) (0 : Int), (1 : Int), (1 : Int)]) = cnRs (typ (0 : Int) eI b_6.2)) ∧ ∃ (b_7 : List ByteArray × List Wrt), (cnRs (typ ByteArray.empty (fun (y : ByteArray) => [CV.s y]) [b.1 ++ natS b.2.toNat, b_1.1 ++ natS b_1.2.toNat, b_5.1 ++ natS b_5.2.toNat]) = cnRs (typ ByteArray.empty eS b_7.1) ∧ cnRs (raw [[CV.s (b.1 ++ natS b.2.toNat), CV.b true, CV.ow (3 : Nat) nilR], [CV.s b_6.1, CV.b false, CV.ow (3 : Nat) (typ (0 : Int) eI b_6.2)]]) = cnRs (typ dWrt eWrtO b_7.2)) ∧ true = (tradeP s o).ok ∧ cnRs (typ ByteArray.empty eS b_7.1) = cnRs (typ ByteArray.empty eS (tradeP s o).locks) ∧ cnRs (typ dWrt eWrtO b_7.2) = cnRs (typ dWrt eWrtO (tradeP s o).writes))) ∧ ((if true = true then true else false) = true → ∃ (b_4 : List ByteArray), cnRs (typ ByteArray.empty (fun (y : ByteArray) => [CV.s y]) [b.1 ++ natS b.2.toNat, b_1.1 ++ natS b_1.2.toNat]) = cnRs (typ ByteArray.empty eS b_4) ∧ (noP b_4).ok = (tradeP s o).ok ∧ cnRs (typ ByteArray.empty eS (noP b_4).locks) = cnRs (typ ByteArray.empty eS (tradeP s o).locks) ∧ cnRs (typ dWrt eWrtO (noP b_4).writes) = cnRs (typ dWrt eWrtO (tradeP s o).writes)))) ∧ ((if false = true then true else false) = true → ∃ (b_3 : List ByteArray), cnRs (typ ByteArray.empty (fun (y : ByteArray) => [CV.s y]) [b.1 ++ natS b.2.toNat, b_1.1 ++ natS b_1.2.toNat]) = cnRs (typ ByteArray.empty eS b_3) ∧ (noP b_3).ok = (tradeP s o).ok ∧ cnRs (typ ByteArray.empty eS (noP b_3).locks) = cnRs (typ ByteArray.empty eS (tradeP s o).locks) ∧ cnRs (typ dWrt eWrtO (noP b_3).writes) = cnRs (typ dWrt eWrtO (tradeP s o).writes)))) = _ by kernel_rfl) ?_
  obtain ⟨hp, ho⟩ := hpre
  simp only [cU, eU_iff, Prod.exists, Int.natCast_inj, and_assoc, exists_eq_left', exists_and_left, true_and, and_true, implies_true, and_self, bne_iff_ne, beq_iff_eq, beq_eq_false_iff_ne, ne_eq, forall_eq, Prod.forall, fi_eI, fi_eS, cI, nI_iff, cI_app, cItemO, cItemS, nItemO_iff, nItemS_iff, cWrtO, cWrtS, nWrtO_iff, nWrtS_iff, cStoO, cStoS, nStoO_iff, nStoS_iff, fItemO, fItemS, fWrtO, fWrtS, fStoO, fStoS, fI, frz_app, cWrtO_app, cWrtS_app, cWrtO_1, cItemO_1, opr_ex, zcast, cnRs_raw, cnRs_nil, frz_nil, nil_map, List.map_nil, Int.toNat_natCast, Bool.not_eq_true, Bool.not_eq_false, decide_eq_true_eq, decide_eq_false_iff_not, gt_iff_lt, cS_eq, wr_cons, wr_cnil, wr_nil, i1, i2, i3, i4, i5, i6, exists_eq_left, exists_eq_left', reduceCtorEq, forall_const, false_implies, true_implies, and_true, true_and, Bool.true_eq_false, Bool.false_eq_true]
  have hn := op_nums ho
  rw [kd_nat (c := 99) (n := o.code) (by omega), kd_nat (c := 102) (n := o.fam) (by omega)]
  have hs := plc_sto hp
  have hg := fun v => get_code hp (n := o.code) (v := v)
  have hf' := fun v => get_fam hp (n := o.fam) (v := v)
  refine ⟨by omega, by omega, by decide, by omega, by omega, by decide, hs, ?_⟩
  simp only [tradeP, hasV, getV]
  rcases opt_cases (getS s (kd 99 o.code)) with hk | ⟨v, hk⟩
  · rcases opt_cases (getS s (kd 102 o.fam)) with hf | ⟨u, hf⟩
    · simp [noP, hk, hf, hs]
    · have := (hf' u hf).1
      simp [noP, hk, hf, hs, this]
  · obtain ⟨g1, g2⟩ := hg v hk
    obtain ⟨a, b, rfl⟩ := len2 g1
    simp at g2
    rcases opt_cases (getS s (kd 102 o.fam)) with hf | ⟨u, hf⟩
    case inr =>
      have := (hf' u hf).1
      simp [noP, hk, hf, this, hs]
    by_cases h1 : b = secB o.sec
    · simp [noP, hk, hf, h1, g2, hs, kd_nat g2]
      exact ⟨by omega, by decide⟩
    · simp [noP, hk, hf, h1, Ne.symm h1, g2, hs]
def impl_trade_c : Con Tryz.prog := ⟨87, 2, [.lend, .lend], [], Sto × Opr, some fun b => plcB 2 b.1 = true ∧ opOk b.2 = true, fun b => [(0, kSto b.1), (1, kOp b.2)], fun b => [(2, kPlan (tradeP b.1 b.2))], [], fun b h => impl_trade_ok (b.1) (b.2) h⟩
theorem impl_next_ok (s : Sto) (o : Opr) (hpre : plcB 2 s = true ∧ opOk o = true) : FunOK Tryz.prog 88 2 [] [(0, kSto s), (1, kOp o)] (· = [(2, kPlan (nextP s o))]) := by
  refine fun_to (E := ⟨tab, ctOf [impl_named_c, StoGet1_c, impl_refused_c, impl_done_c, impl_set_c, impl_in_c], 74, [], [(0, [2, 3, 4, 39, 73]), (1, [2, 3, 4, 5, 39, 73]), (2, [3, 4, 5, 6, 13, 39, 73]), (3, [3, 4, 5, 6, 13, 36, 39, 73]), (4, [4, 39, 73]), (5, [3, 4, 5, 6, 7, 13, 39, 73]), (6, [4, 5, 6, 7, 13, 39, 55, 73]), (7, [4, 5, 6, 7, 13, 39, 73]), (8, [4, 39, 73])], [], [(8, [(1000001, []), (1000006, [])])], [], []⟩) tab_ok mixed Tryz.func88 rfl Tryz.ntmps88 (rvs := [.cell 4 41]) Tryz.results88 rfl fun hl => ?_
  refine cast (show (∃ (b : ByteArray × Int), ((ByteArray.mk #[(102 : UInt8)]) = b.1 ∧ o.fam = b.2) ∧ ((0 : Int) ≤ b.2 ∧ b.2 < (100 : Int) ∧ b.1.size ≤ (10 : Nat)) ∧ ∃ (b_1 : Sto × ByteArray), (cnRs (typ dItem eItemS s) = cnRs (typ dItem eItemS b_1.1) ∧ b.1 ++ natS b.2.toNat = b_1.2) ∧ stoB b_1.1 = true ∧ ((getS b_1.1 b_1.2).isNone = true → True ∧ ((if false = true then false else true) = false → False) ∧ ((if false = true then false else true) = true → ∃ (b_2 : List ByteArray), cnRs (typ ByteArray.empty (fun (y : ByteArray) => [CV.s y]) [b.1 ++ natS b.2.toNat]) = cnRs (typ ByteArray.empty eS b_2) ∧ (noP b_2).ok = (nextP s o).ok ∧ cnRs (typ ByteArray.empty eS (noP b_2).locks) = cnRs (typ ByteArray.empty eS (nextP s o).locks) ∧ cnRs (typ dWrt eWrtO (noP b_2).writes) = cnRs (typ dWrt eWrtO (nextP s o).writes))) ∧ ((getS b_1.1 b_1.2).isNone = false → (0 : Nat) < (getV b_1.1 b_1.2).length ∧ ((if false = true then true else false) = false → ((0 : Int) ≤ (2 : Int) ∧ (2 : Int) < (↑(getV b_1.1 b_1.2).length : Int)) ∧ (2 : Nat) < (getV b_1.1 b_1.2).length ∧ (((getV b_1.1 b_1.2).getD (2 : Nat) (0 : Int) == (0 : Int)) = false → ((0 : Int) ≤ (1 : Int) ∧ (1 : Int) < (↑(getV b_1.1 b_1.2).length : Int)) ∧ (1 : Nat) < (getV b_1.1 b_1.2).length ∧ ∃ (b_2 : Int × Int × Int), (o.gen = b_2.1 ∧ (1 : Int) = b_2.2.1 ∧ (getV b_1.1 b_1.2).getD (1 : Nat) (0 : Int) = b_2.2.2) ∧ ((!inR b_2.1 b_2.2.1 b_2.2.2) = false → ((0 : Int) ≤ (1 : Int) ∧ (1 : Int) < (↑(getV b_1.1 b_1.2).length : Int)) ∧ (1 : Nat) < (getV b_1.1 b_1.2).length ∧ (((getV b_1.1 b_1.2).getD (1 : Nat) (0 : Int) == (99 : Int)) = true → ∃ (b_3 : List ByteArray), cnRs (typ ByteArray.empty (fun (y : ByteArray) => [CV.s y]) [b.1 ++ natS b.2.toNat]) = cnRs (typ ByteArray.empty eS b_3) ∧ (noP b_3).ok = (nextP s o).ok ∧ cnRs (typ ByteArray.empty eS (noP b_3).locks) = cnRs (typ ByteArray.empty eS (nextP s o).locks) ∧ cnRs (typ dWrt eWrtO (noP b_3).writes) = cnRs (typ dWrt eWrtO (nextP s o).writes)) ∧ (((getV b_1.1 b_1.2).getD (1 : Nat) (0 : Int) == (99 : Int)) = false → ((0 : Int) ≤ (0 : Int) ∧ (0 : Int) < (↑(getV b_1.1 b_1.2).length : Int)) ∧ (0 : Nat) < (getV b_1.1 b_1.2).length ∧ ((0 : Int) ≤ (1 : Int) ∧ (1 : Int) < (↑(getV b_1.1 b_1.2).length : Int)) ∧ (1 : Nat) < (getV b_1.1 b_1.2).length ∧ ∃ (b_3 : ByteArray × List Int), (b.1 ++ natS b.2.toNat = b_3.1 ∧ cnRs (typ (0 : Int) (fun (y : Int) => [CV.n IntKind.i64 y]) [(getV b_1.1 b_1.2).getD (0 : Nat) (0 : Int), IntKind.i64.wrap ((getV b_1.1 b_1.2).getD (1 : Nat) (0 : Int) + (1 : Int)), (1 : Int)]) = cnRs (typ (0 : Int) eI b_3.2)) ∧ ((0 : Int) ≤ (1 : Int) ∧ (1 : Int) < (↑(getV b_1.1 b_1.2).length : Int)) ∧ (1 : Nat) < (getV b_1.1 b_1.2).length ∧ (decide (o.gen < (getV b_1.1 b_1.2).getD (1 : Nat) (0 : Int)) = true → ((0 : Int) ≤ (0 : Int) ∧ (0 : Int) < (↑(getV b_1.1 b_1.2).length : Int)) ∧ (0 : Nat) < (getV b_1.1 b_1.2).length ∧ ((0 : Int) ≤ (1 : Int) ∧ (1 : Int) < (↑(getV b_1.1 b_1.2).length : Int)) ∧ (1 : Nat) < (getV b_1.1 b_1.2).length ∧ ∃ (b_4 : ByteArray × List Int), (b.1 ++ natS b.2.toNat = b_4.1 ∧ cnRs (typ (0 : Int) (fun (y : Int) => [CV.n IntKind.i64 y]) [(getV b_1.1 b_1.2).getD (0 : Nat) (0 : Int), (getV b_1.1 b_1.2).getD (1 : Nat) (0 : Int), (0 : Int)]) = cnRs (typ (0 : Int) eI b_4.2)) ∧ ((0 : Int) ≤ (0 : Int) ∧ (0 : Int) < (↑(getV b_1.1 b_1.2).length : Int)) ∧ (0 : Nat) < (getV b_1.1 b_1.2).length ∧ ∃ (b_5 : ByteArray × Int), ((ByteArray.mk #[(117 : UInt8)]) = b_5.1 ∧ (getV b_1.1 b_1.2).getD (0 : Nat) (0 : Int) = b_5.2) ∧ ((0 : Int) ≤ b_5.2 ∧ b_5.2 < (100 : Int) ∧ b_5.1.size ≤ (10 : Nat)) ∧ ∃ (b_6 : List ByteArray × List Wrt), (cnRs (typ ByteArray.empty (fun (y : ByteArray) => [CV.s y]) [b.1 ++ natS b.2.toNat, b_5.1 ++ natS b_5.2.toNat]) = cnRs (typ ByteArray.empty eS b_6.1) ∧ cnRs (raw [[CV.s b_4.1, CV.b false, CV.ow (3 : Nat) (typ (0 : Int) eI b_4.2)]]) = cnRs (typ dWrt eWrtO b_6.2)) ∧ true = (nextP s o).ok ∧ cnRs (typ ByteArray.empty eS b_6.1) = cnRs (typ ByteArray.empty eS (nextP s o).locks) ∧ cnRs (typ dWrt eWrtO b_6.2) = cnRs (typ dWrt eWrtO (nextP s o).writes)) ∧ (decide (o.gen < (getV b_1.1 b_1.2).getD (1 : Nat) (0 : Int)) = false → ((0 : Int) ≤ (0 : Int) ∧ (0 : Int) < (↑(getV b_1.1 b_1.2).length : Int)) ∧ (0 : Nat) < (getV b_1.1 b_1.2).length ∧ ∃ (b_4 : ByteArray × Int), ((ByteArray.mk #[(117 : UInt8)]) = b_4.1 ∧ (getV b_1.1 b_1.2).getD (0 : Nat) (0 : Int) = b_4.2) ∧ ((0 : Int) ≤ b_4.2 ∧ b_4.2 < (100 : Int) ∧ b_4.1.size ≤ (10 : Nat)) ∧ ∃ (b_5 : List ByteArray × List Wrt), (cnRs (typ ByteArray.empty (fun (y : ByteArray) => [CV.s y]) [b.1 ++ natS b.2.toNat, b_4.1 ++ natS b_4.2.toNat]) = cnRs (typ ByteArray.empty eS b_5.1) ∧ cnRs (raw [[CV.s b_3.1, CV.b false, CV.ow (3 : Nat) (typ (0 : Int) eI b_3.2)]]) = cnRs (typ dWrt eWrtO b_5.2)) ∧ true = (nextP s o).ok ∧ cnRs (typ ByteArray.empty eS b_5.1) = cnRs (typ ByteArray.empty eS (nextP s o).locks) ∧ cnRs (typ dWrt eWrtO b_5.2) = cnRs (typ dWrt eWrtO (nextP s o).writes)))) ∧ ((!inR b_2.1 b_2.2.1 b_2.2.2) = true → ∃ (b_3 : List ByteArray), cnRs (typ ByteArray.empty (fun (y : ByteArray) => [CV.s y]) [b.1 ++ natS b.2.toNat]) = cnRs (typ ByteArray.empty eS b_3) ∧ (noP b_3).ok = (nextP s o).ok ∧ cnRs (typ ByteArray.empty eS (noP b_3).locks) = cnRs (typ ByteArray.empty eS (nextP s o).locks) ∧ cnRs (typ dWrt eWrtO (noP b_3).writes) = cnRs (typ dWrt eWrtO (nextP s o).writes))) ∧ (((getV b_1.1 b_1.2).getD (2 : Nat) (0 : Int) == (0 : Int)) = true → ∃ (b_2 : List ByteArray), cnRs (typ ByteArray.empty (fun (y : ByteArray) => [CV.s y]) [b.1 ++ natS b.2.toNat]) = cnRs (typ ByteArray.empty eS b_2) ∧ (noP b_2).ok = (nextP s o).ok ∧ cnRs (typ ByteArray.empty eS (noP b_2).locks) = cnRs (typ ByteArray.empty eS (nextP s o).locks) ∧ cnRs (typ dWrt eWrtO (noP b_2).writes) = cnRs (typ dWrt eWrtO (nextP s o).writes))) ∧ ((if false = true then true else false) = true → ∃ (b_2 : List ByteArray), cnRs (typ ByteArray.empty (fun (y : ByteArray) => [CV.s y]) [b.1 ++ natS b.2.toNat]) = cnRs (typ ByteArray.empty eS b_2) ∧ (noP b_2).ok = (nextP s o).ok ∧ cnRs (typ ByteArray.empty eS (noP b_2).locks) = cnRs (typ ByteArray.empty eS (nextP s o).locks) ∧ cnRs (typ dWrt eWrtO (noP b_2).writes) = cnRs (typ dWrt eWrtO (nextP s o).writes)))) = _ by kernel_rfl) ?_
  obtain ⟨hp, ho⟩ := hpre
  simp only [cU, eU_iff, Prod.exists, Int.natCast_inj, and_assoc, exists_eq_left', exists_and_left, true_and, and_true, implies_true, and_self, bne_iff_ne, beq_iff_eq, beq_eq_false_iff_ne, ne_eq, forall_eq, Prod.forall, fi_eI, fi_eS, cI, nI_iff, cI_app, cItemO, cItemS, nItemO_iff, nItemS_iff, cWrtO, cWrtS, nWrtO_iff, nWrtS_iff, cStoO, cStoS, nStoO_iff, nStoS_iff, fItemO, fItemS, fWrtO, fWrtS, fStoO, fStoS, fI, frz_app, cWrtO_app, cWrtS_app, cWrtO_1, cItemO_1, opr_ex, zcast, cnRs_raw, cnRs_nil, frz_nil, nil_map, List.map_nil, Int.toNat_natCast, Bool.not_eq_true, Bool.not_eq_false, decide_eq_true_eq, decide_eq_false_iff_not, gt_iff_lt, cS_eq, wr_cons, wr_cnil, wr_nil, i1, i2, i3, i4, i5, i6, exists_eq_left, exists_eq_left', reduceCtorEq, forall_const, false_implies, true_implies, and_true, true_and, Bool.true_eq_false, Bool.false_eq_true]
  have hn := op_nums ho
  rw [kd_nat (c := 102) (n := o.fam) (by omega)]
  have hs := plc_sto hp
  have hg := fun v => get_fam hp (n := o.fam) (v := v)
  refine ⟨by omega, by omega, by decide, hs, ?_⟩
  simp only [nextP, hasV, getV]
  rcases opt_cases (getS s (kd 102 o.fam)) with hk | ⟨v, hk⟩
  · simp [noP, hk]
  · obtain ⟨g1, g2⟩ := hg v hk
    obtain ⟨a, b, c, rfl⟩ := len3 g1
    simp at g2
    have hd : (ByteArray.mk #[117]).size ≤ 10 := by decide
    by_cases h1 : c = 0
    · simp [noP, hk, h1]
    by_cases h2 : inR o.gen 1 b = true
    · have h2' : 1 ≤ o.gen ∧ o.gen ≤ b := by simpa [inR] using h2
      by_cases h4 : b = 99
      · simp [noP, hk, h1, h2, h4, kd_nat]
      · have e1 : ¬ b < o.gen := by omega
        have e2 : ¬ o.gen = 0 := by omega
        have e3 : a < 100 := by omega
        by_cases h5 : o.gen < b <;> simp [noP, hk, h1, h2, h4, h5, e1, e2, e3, g2, hd, kd_nat, IntWalk.i64_in (b + 1) (by omega)]
    · have h2' : o.gen < 1 ∨ b < o.gen := by simp [inR] at h2; omega
      have e1 : b < o.gen ∨ o.gen = 0 ∨ b = 99 := by omega
      simp [noP, hk, h1, h2, e1]
def impl_next_c : Con Tryz.prog := ⟨88, 2, [.lend, .lend], [], Sto × Opr, some fun b => plcB 2 b.1 = true ∧ opOk b.2 = true, fun b => [(0, kSto b.1), (1, kOp b.2)], fun b => [(2, kPlan (nextP b.1 b.2))], [], fun b h => impl_next_ok (b.1) (b.2) h⟩
theorem impl_out_ok (s : Sto) (o : Opr) (hpre : plcB 2 s = true ∧ opOk o = true) : FunOK Tryz.prog 89 2 [] [(0, kSto s), (1, kOp o)] (· = [(2, kPlan (outP s o))]) := by
  refine fun_to (E := ⟨tab, ctOf [impl_named_c, impl_done_c, impl_set_c], 64, [], [(0, [2, 3, 4, 5, 63]), (1, [2, 3, 4, 5, 63]), (2, [2, 3, 4, 5, 13, 14, 15, 16, 63]), (3, [2, 3, 4, 5, 13, 14, 15, 16, 17, 63]), (4, [2, 3, 4, 5, 7, 13, 14, 15, 16, 63]), (5, [2, 3, 4, 5, 7, 13, 14, 15, 16, 39, 63]), (6, [2, 3, 4, 5, 7, 13, 14, 15, 16, 63]), (7, [2, 3, 4, 5, 13, 14, 15, 16, 63]), (8, [2, 3, 4, 5, 13, 14, 15, 16, 63]), (9, [4, 5, 63])], [(0, ⟨List ByteArray × List Wrt × Nat, fun x => [(2, ⟨.box, [.c (.sh 75 (typ dItem eItemS s))], []⟩), (3, ⟨.box, [.c (.n IntKind.i64 o.kind), .c (.n IntKind.i64 o.who), .c (.n IntKind.i64 o.inn), .c (.n IntKind.i64 o.code), .c (.n IntKind.i64 o.sec), .c (.n IntKind.i64 o.fam), .c (.n IntKind.i64 o.gen)], []⟩), (4, ⟨.box, [.c (.b false), .c (.ow 9 nilR), .c (.ow 55 nilR)], []⟩), (5, ⟨.box, [.c (.b true), .c (oS (x.1)), .c (oWrts (x.2.1))], []⟩), (13, ⟨.one, [SC.pr (2 : Nat) (0 : Nat) (0 : Nat)], []⟩), (14, ⟨.one, [.c (.sh 75 (typ dItem eItemS s))], []⟩), (15, ⟨.one, [.c (.n IntKind.i64 ((↑(List.length s) : Int)))], []⟩), (16, ⟨.one, [.c (.n IntKind.i64 (x.2.2 : Int))], []⟩)]⟩)], [], [], []⟩) tab_ok mixed Tryz.func89 rfl Tryz.ntmps89 (rvs := [.cell 4 41]) Tryz.results89 rfl fun hl => ?_
  refine cast (show (∃ (b : ByteArray × Int), ((ByteArray.mk #[(117 : UInt8)]) = b.1 ∧ o.who = b.2) ∧ ((0 : Int) ≤ b.2 ∧ b.2 < (100 : Int) ∧ b.1.size ≤ (10 : Nat)) ∧ ∃ (b_1 : List ByteArray × List Wrt), (cnRs (typ ByteArray.empty (fun (y : ByteArray) => [CV.s y]) [b.1 ++ natS b.2.toNat]) = cnRs (typ ByteArray.empty eS b_1.1) ∧ b_1.2.length = (0 : Nat)) ∧ ∃ (pre : List ByteArray × List Wrt × Nat → Prop), ∃ (μ : List ByteArray × List Wrt × Nat → Nat), ∃ (x0 : List ByteArray × List Wrt × Nat), (cnRs (typ dItem eItemS s) = cnRs (typ dItem eItemS s) ∧ (o.kind = o.kind ∧ o.who = o.who ∧ o.inn = o.inn ∧ o.code = o.code ∧ o.sec = o.sec ∧ o.fam = o.fam ∧ o.gen = o.gen) ∧ (false = false ∧ cnRs nilR = cnRs nilR ∧ cnRs nilR = cnRs nilR) ∧ (true = true ∧ cnRs (typ ByteArray.empty eS b_1.1) = cnRs (typ ByteArray.empty eS x0.1) ∧ cnRs (typ dWrt eWrtO b_1.2) = cnRs (typ dWrt eWrtO x0.2.1)) ∧ ((2 : Nat) = (2 : Nat) ∧ (0 : Nat) = (0 : Nat) ∧ true = true) ∧ cnRs (typ dItem eItemS s) = cnRs (typ dItem eItemS s) ∧ (↑(List.length s) : Int) = (↑(List.length s) : Int) ∧ (0 : Int) = (↑x0.2.2 : Int)) ∧ pre x0 ∧ ∀ (x : List ByteArray × List Wrt × Nat), pre x → (decide ((↑x.2.2 : Int) < (↑(List.length s) : Int)) = true → ((0 : Int) ≤ (↑x.2.2 : Int) ∧ (↑x.2.2 : Int) < (↑(List.length s) : Int)) ∧ ((0 : Int) ≤ (0 : Int) ∧ (0 : Int) < (↑(List.getD s (↑x.2.2 : Int).toNat dItem).key.size : Int)) ∧ ((byteAt (List.getD s (↑x.2.2 : Int).toNat dItem).key (Int.toNat (0 : Int)) == (102 : Int)) = true → ((0 : Int) ≤ (0 : Int) ∧ (0 : Int) < (↑(List.getD s (↑x.2.2 : Int).toNat dItem).val.length : Int)) ∧ (((List.getD s (↑x.2.2 : Int).toNat dItem).val.getD (Int.toNat (0 : Int)) (0 : Int) == o.who) = true → ((0 : Int) ≤ (2 : Int) ∧ (2 : Int) < (↑(List.getD s (↑x.2.2 : Int).toNat dItem).val.length : Int)) ∧ (((List.getD s (↑x.2.2 : Int).toNat dItem).val.getD (Int.toNat (2 : Int)) (0 : Int) == (1 : Int)) = true → (x.1.length + (1 : Nat)) * (16 : Nat) ≤ (140737488355328 : Nat) ∧ ((0 : Int) ≤ (1 : Int) ∧ (1 : Int) < (↑(List.getD s (↑x.2.2 : Int).toNat dItem).val.length : Int)) ∧ ∃ (b : ByteArray × List Int), ((List.getD s (↑x.2.2 : Int).toNat dItem).key = b.1 ∧ cnRs (typ (0 : Int) (fun (y : Int) => [CV.n IntKind.i64 y]) [o.who, (List.getD s (↑x.2.2 : Int).toNat dItem).val.getD (Int.toNat (1 : Int)) (0 : Int), (0 : Int)]) = cnRs (typ (0 : Int) eI b.2)) ∧ (x.2.1.length + (1 : Nat)) * (48 : Nat) ≤ (140737488355328 : Nat) ∧ ∃ (y : List ByteArray × List Wrt × Nat), (cnRs (typ dItem eItemS s) = cnRs (typ dItem eItemS s) ∧ (o.kind = o.kind ∧ o.who = o.who ∧ o.inn = o.inn ∧ o.code = o.code ∧ o.sec = o.sec ∧ o.fam = o.fam ∧ o.gen = o.gen) ∧ (false = false ∧ cnRs nilR = cnRs nilR ∧ cnRs nilR = cnRs nilR) ∧ (true = true ∧ cnRs (appR (typ ByteArray.empty eS x.1) (typ ByteArray.empty (fun (y : ByteArray) => [CV.s y]) [(List.getD s (↑x.2.2 : Int).toNat dItem).key])) = cnRs (typ ByteArray.empty eS y.1) ∧ cnRs (appR (typ dWrt eWrtO x.2.1) (raw [[CV.s b.1, CV.b false, CV.ow (3 : Nat) (typ (0 : Int) eI b.2)]])) = cnRs (typ dWrt eWrtO y.2.1)) ∧ ((2 : Nat) = (2 : Nat) ∧ (0 : Nat) = (0 : Nat) ∧ true = true) ∧ cnRs (typ dItem eItemS s) = cnRs (typ dItem eItemS s) ∧ (↑(List.length s) : Int) = (↑(List.length s) : Int) ∧ IntKind.i64.wrap ((↑x.2.2 : Int) + (1 : Int)) = (↑y.2.2 : Int)) ∧ pre y ∧ μ y < μ x) ∧ (((List.getD s (↑x.2.2 : Int).toNat dItem).val.getD (Int.toNat (2 : Int)) (0 : Int) == (1 : Int)) = false → ∃ (y : List ByteArray × List Wrt × Nat), (cnRs (typ dItem eItemS s) = cnRs (typ dItem eItemS s) ∧ (o.kind = o.kind ∧ o.who = o.who ∧ o.inn = o.inn ∧ o.code = o.code ∧ o.sec = o.sec ∧ o.fam = o.fam ∧ o.gen = o.gen) ∧ (false = false ∧ cnRs nilR = cnRs nilR ∧ cnRs nilR = cnRs nilR) ∧ (true = true ∧ cnRs (typ ByteArray.empty eS x.1) = cnRs (typ ByteArray.empty eS y.1) ∧ cnRs (typ dWrt eWrtO x.2.1) = cnRs (typ dWrt eWrtO y.2.1)) ∧ ((2 : Nat) = (2 : Nat) ∧ (0 : Nat) = (0 : Nat) ∧ true = true) ∧ cnRs (typ dItem eItemS s) = cnRs (typ dItem eItemS s) ∧ (↑(List.length s) : Int) = (↑(List.length s) : Int) ∧ IntKind.i64.wrap ((↑x.2.2 : Int) + (1 : Int)) = (↑y.2.2 : Int)) ∧ pre y ∧ μ y < μ x)) ∧ (((List.getD s (↑x.2.2 : Int).toNat dItem).val.getD (Int.toNat (0 : Int)) (0 : Int) == o.who) = false → ∃ (y : List ByteArray × List Wrt × Nat), (cnRs (typ dItem eItemS s) = cnRs (typ dItem eItemS s) ∧ (o.kind = o.kind ∧ o.who = o.who ∧ o.inn = o.inn ∧ o.code = o.code ∧ o.sec = o.sec ∧ o.fam = o.fam ∧ o.gen = o.gen) ∧ (false = false ∧ cnRs nilR = cnRs nilR ∧ cnRs nilR = cnRs nilR) ∧ (true = true ∧ cnRs (typ ByteArray.empty eS x.1) = cnRs (typ ByteArray.empty eS y.1) ∧ cnRs (typ dWrt eWrtO x.2.1) = cnRs (typ dWrt eWrtO y.2.1)) ∧ ((2 : Nat) = (2 : Nat) ∧ (0 : Nat) = (0 : Nat) ∧ true = true) ∧ cnRs (typ dItem eItemS s) = cnRs (typ dItem eItemS s) ∧ (↑(List.length s) : Int) = (↑(List.length s) : Int) ∧ IntKind.i64.wrap ((↑x.2.2 : Int) + (1 : Int)) = (↑y.2.2 : Int)) ∧ pre y ∧ μ y < μ x)) ∧ ((byteAt (List.getD s (↑x.2.2 : Int).toNat dItem).key (Int.toNat (0 : Int)) == (102 : Int)) = false → ∃ (y : List ByteArray × List Wrt × Nat), (cnRs (typ dItem eItemS s) = cnRs (typ dItem eItemS s) ∧ (o.kind = o.kind ∧ o.who = o.who ∧ o.inn = o.inn ∧ o.code = o.code ∧ o.sec = o.sec ∧ o.fam = o.fam ∧ o.gen = o.gen) ∧ (false = false ∧ cnRs nilR = cnRs nilR ∧ cnRs nilR = cnRs nilR) ∧ (true = true ∧ cnRs (typ ByteArray.empty eS x.1) = cnRs (typ ByteArray.empty eS y.1) ∧ cnRs (typ dWrt eWrtO x.2.1) = cnRs (typ dWrt eWrtO y.2.1)) ∧ ((2 : Nat) = (2 : Nat) ∧ (0 : Nat) = (0 : Nat) ∧ true = true) ∧ cnRs (typ dItem eItemS s) = cnRs (typ dItem eItemS s) ∧ (↑(List.length s) : Int) = (↑(List.length s) : Int) ∧ IntKind.i64.wrap ((↑x.2.2 : Int) + (1 : Int)) = (↑y.2.2 : Int)) ∧ pre y ∧ μ y < μ x)) ∧ (decide ((↑x.2.2 : Int) < (↑(List.length s) : Int)) = false → true = (outP s o).ok ∧ cnRs (typ ByteArray.empty eS x.1) = cnRs (typ ByteArray.empty eS (outP s o).locks) ∧ cnRs (typ dWrt eWrtO x.2.1) = cnRs (typ dWrt eWrtO (outP s o).writes))) = _ by kernel_rfl) ?_
  obtain ⟨hp, ho⟩ := hpre
  simp only [cU, eU_iff, Prod.exists, Int.natCast_inj, and_assoc, exists_eq_left', exists_and_left, true_and, and_true, implies_true, and_self, bne_iff_ne, beq_iff_eq, beq_eq_false_iff_ne, ne_eq, forall_eq, Prod.forall, fi_eI, fi_eS, cI, nI_iff, cI_app, cItemO, cItemS, nItemO_iff, nItemS_iff, cWrtO, cWrtS, nWrtO_iff, nWrtS_iff, cStoO, cStoS, nStoO_iff, nStoS_iff, fItemO, fItemS, fWrtO, fWrtS, fStoO, fStoS, fI, frz_app, cWrtO_app, cWrtS_app, cWrtO_1, cItemO_1, opr_ex, zcast, cnRs_raw, cnRs_nil, frz_nil, nil_map, List.map_nil, Int.toNat_natCast, Bool.not_eq_true, Bool.not_eq_false, decide_eq_true_eq, decide_eq_false_iff_not, gt_iff_lt, cS_eq, wr_cons, wr_cnil, wr_nil, i1, i2, i3, i4, i5, i6, exists_eq_left, exists_eq_left', reduceCtorEq, forall_const, false_implies, true_implies, and_true, true_and, Bool.true_eq_false, Bool.false_eq_true]
  have hn := op_nums ho
  rw [kd_nat (c := 117) (n := o.who) (by omega)]
  have hs := plc_sto hp
  have hx : s.length ≤ 40 := (stoB_small hs).1
  refine ⟨by omega, by omega, by decide, [], rfl, fun x => x.2.2 ≤ s.length ∧ x.1 = kd 117 o.who :: ((s.take x.2.2).filter (outI o)).map (·.key) ∧ x.2.1 = ((s.take x.2.2).filter (outI o)).map outW ∧ x.1.length ≤ x.2.2 + 1 ∧ x.2.1.length ≤ x.2.2, ⟨by simp, by simp, by simp, by simp, by simp⟩, fun x => s.length - x.2.2, fun a b n hpp => ?_⟩
  obtain ⟨h1, h2, h3, h4, h5⟩ := hpp
  simp only at h1 h2 h3 h4 h5
  refine ⟨fun hl0 => ?_, fun hge => ?_⟩
  · have hlt : n < s.length := by omega
    have hf := filter_succ (p := outI o) hlt (d := dItem)
    have hm : s.getD n dItem ∈ s := by rw [getD_lt hlt]; exact List.getElem_mem hlt
    generalize s.getD n dItem = it at hf hm ⊢
    have hk := sto_key hs hm
    have hv := sto_val hs hm
    have hw := wrapN (x := n) (by omega)
    have no : outI o it = false → (n + 1 ≤ s.length ∧ a = kd 117 o.who :: ((s.take (n + 1)).filter (outI o)).map (·.key) ∧ b = ((s.take (n + 1)).filter (outI o)).map outW ∧ a.length ≤ n + 1 + 1 ∧ b.length ≤ n + 1) := fun hp' => by
      refine ⟨by omega, ?_, ?_, by omega, by omega⟩
      · rw [hf, hp']; simpa using h2
      · rw [hf, hp']; simpa using h3
    refine ⟨by omega, hl0, by omega, by omega, fun q1 => ⟨by omega, by omega, fun q2 => ?_, fun q2 => ?_⟩, fun q1 => ?_⟩
    · have h3l : it.val.length = 3 := by
        have hform := plc_form hp hm
        rw [show Int.toNat 0 = 0 from rfl] at q1
        simp [formI, q1] at hform
        omega
      refine ⟨by omega, by omega, fun q3 => ⟨by omega, by omega, by omega, by omega, a ++ [it.key], by simp [cnRs_typ], n + 1, hw, ?_, by simp only; omega⟩, fun q3 => ⟨n + 1, hw, no (by simp_all [outI]), by simp only; omega⟩⟩
      have hp' : outI o it = true := by simp_all [outI]
      refine ⟨by simp only; omega, ?_, ?_, by simp only [List.length_append, List.length_singleton]; omega, by simp only [List.length_append, List.length_singleton]; omega⟩
      · simp only [hf, hp', if_true, List.filter_append, List.map_append, h2]; rfl
      · simp only [hf, hp', if_true, List.filter_append, List.map_append, h3]
        simp only [show Int.toNat 0 = 0 from rfl] at q2
        rw [List.map_singleton, outW, q2]; rfl
    · exact ⟨n + 1, hw, no (by simp_all [outI]), by simp only; omega⟩
    · exact ⟨n + 1, hw, no (by simp_all [outI]), by simp only; omega⟩
  · have : n = s.length := by omega
    rw [this, List.take_length] at h2 h3
    simp [outP, h2, h3]
def impl_out_c : Con Tryz.prog := ⟨89, 2, [.lend, .lend], [], Sto × Opr, some fun b => plcB 2 b.1 = true ∧ opOk b.2 = true, fun b => [(0, kSto b.1), (1, kOp b.2)], fun b => [(2, kPlan (outP b.1 b.2))], [], fun b h => impl_out_ok (b.1) (b.2) h⟩
theorem op_kind {o : Opr} (h : opOk o = true) : 1 ≤ o.kind ∧ o.kind ≤ 5 := by
  have : ∀ {k : Int}, (k = 1 ∨ k = 2 ∨ k = 3 ∨ k = 4 ∨ k = 5) → 1 ≤ k ∧ k ≤ 5 := fun h => by omega
  apply this
  simp [opOk] at h
  omega
theorem places_mem {p : Int} {o : Opr} (h : ((placesL o).any fun x => p == x) = true) : opOk o = true ∧ (p = 1 ∨ p = 2 ∨ p = 3) ∧ (p = 2 → o.kind ≠ 1) := by
  simp only [placesL] at h
  split at h
  · rename_i ho
    refine ⟨ho, ?_⟩
    split at h
    · rename_i hk; simp at h; omega
    · rename_i hk
      split at h
      · simp at h; omega
      · simp at h; omega
  · simp at h
def planI (p : Int) (s : Sto) (tx : Int) (o : Opr) : Plan := if plcB p s && inR tx 0 29 && (placesL o).any (p == ·) then planP p s tx o else ⟨false, [], []⟩
theorem impl_atMay_ok (s : Sto) (o : Opr) (hpre : plcB 2 s = true ∧ opOk o = true ∧ o.kind ≠ 1) : FunOK Tryz.prog 50 2 [] [(0, kSto s), (1, kOp o)] (· = [(2, kPlan (mayP s o))]) := by
  refine fun_to (E := ⟨tab, ctOf [impl_named_c, StoGet1_c, impl_refused_c, impl_done_c, impl_set_c, impl_trade_c, impl_next_c, impl_out_c, impl_SecSum_c], 45, [], [(0, [2, 3, 4, 12, 17, 22, 32, 44]), (1, [2, 3, 4, 7, 12, 17, 22, 32, 44]), (2, [2, 3, 4, 7, 8, 12, 17, 22, 32, 44]), (3, [4, 12, 17, 22, 32, 44]), (4, [2, 3, 4, 7, 12, 13, 17, 22, 32, 44]), (5, [4, 12, 17, 22, 32, 44]), (6, [2, 3, 4, 12, 17, 18, 22, 32, 44]), (7, [4, 12, 17, 22, 32, 44]), (8, [2, 3, 4, 5, 12, 17, 22, 32, 44]), (9, [3, 4, 5, 12, 17, 22, 29, 32, 44]), (10, [4, 12, 17, 22, 32, 44]), (11, [4, 12, 17, 22, 32, 44])], [], [], [], []⟩) tab_ok mixed Tryz.func50 rfl Tryz.ntmps50 (rvs := [.cell 4 41]) Tryz.results50 rfl fun hl => ?_
  refine cast (show (((o.kind == (3 : Int)) = true → ∃ (b : Sto × Opr), (cnRs (typ dItem eItemS s) = cnRs (typ dItem eItemS b.1) ∧ o.kind = b.2.kind ∧ o.who = b.2.who ∧ o.inn = b.2.inn ∧ o.code = b.2.code ∧ o.sec = b.2.sec ∧ o.fam = b.2.fam ∧ o.gen = b.2.gen) ∧ (plcB (2 : Int) b.1 = true ∧ opOk b.2 = true) ∧ (tradeP b.1 b.2).ok = (mayP s o).ok ∧ cnRs (typ ByteArray.empty eS (tradeP b.1 b.2).locks) = cnRs (typ ByteArray.empty eS (mayP s o).locks) ∧ cnRs (typ dWrt eWrtO (tradeP b.1 b.2).writes) = cnRs (typ dWrt eWrtO (mayP s o).writes)) ∧ ((o.kind == (3 : Int)) = false → ((o.kind == (4 : Int)) = true → ∃ (b : Sto × Opr), (cnRs (typ dItem eItemS s) = cnRs (typ dItem eItemS b.1) ∧ o.kind = b.2.kind ∧ o.who = b.2.who ∧ o.inn = b.2.inn ∧ o.code = b.2.code ∧ o.sec = b.2.sec ∧ o.fam = b.2.fam ∧ o.gen = b.2.gen) ∧ (plcB (2 : Int) b.1 = true ∧ opOk b.2 = true) ∧ (nextP b.1 b.2).ok = (mayP s o).ok ∧ cnRs (typ ByteArray.empty eS (nextP b.1 b.2).locks) = cnRs (typ ByteArray.empty eS (mayP s o).locks) ∧ cnRs (typ dWrt eWrtO (nextP b.1 b.2).writes) = cnRs (typ dWrt eWrtO (mayP s o).writes)) ∧ ((o.kind == (4 : Int)) = false → ((o.kind == (5 : Int)) = true → ∃ (b : Sto × Opr), (cnRs (typ dItem eItemS s) = cnRs (typ dItem eItemS b.1) ∧ o.kind = b.2.kind ∧ o.who = b.2.who ∧ o.inn = b.2.inn ∧ o.code = b.2.code ∧ o.sec = b.2.sec ∧ o.fam = b.2.fam ∧ o.gen = b.2.gen) ∧ (plcB (2 : Int) b.1 = true ∧ opOk b.2 = true) ∧ (outP b.1 b.2).ok = (mayP s o).ok ∧ cnRs (typ ByteArray.empty eS (outP b.1 b.2).locks) = cnRs (typ ByteArray.empty eS (mayP s o).locks) ∧ cnRs (typ dWrt eWrtO (outP b.1 b.2).writes) = cnRs (typ dWrt eWrtO (mayP s o).writes)) ∧ ((o.kind == (5 : Int)) = false → ∃ (b : ByteArray × Int), ((ByteArray.mk #[(99 : UInt8)]) = b.1 ∧ o.code = b.2) ∧ ((0 : Int) ≤ b.2 ∧ b.2 < (100 : Int) ∧ b.1.size ≤ (10 : Nat)) ∧ ∃ (b_1 : Sto × ByteArray), (cnRs (typ dItem eItemS s) = cnRs (typ dItem eItemS b_1.1) ∧ b.1 ++ natS b.2.toNat = b_1.2) ∧ stoB b_1.1 = true ∧ ((getS b_1.1 b_1.2).isNone = true → True ∧ ((if true = true then false else true) = true → ∃ (b_2 : List ByteArray), cnRs (typ ByteArray.empty (fun (y : ByteArray) => [CV.s y]) [b.1 ++ natS b.2.toNat]) = cnRs (typ ByteArray.empty eS b_2) ∧ (noP b_2).ok = (mayP s o).ok ∧ cnRs (typ ByteArray.empty eS (noP b_2).locks) = cnRs (typ ByteArray.empty eS (mayP s o).locks) ∧ cnRs (typ dWrt eWrtO (noP b_2).writes) = cnRs (typ dWrt eWrtO (mayP s o).writes)) ∧ ((if true = true then false else true) = false → ∃ (b_2 : Int), o.sec = b_2 ∧ ∃ (b_3 : ByteArray × List Int), (b.1 ++ natS b.2.toNat = b_3.1 ∧ cnRs (typ (0 : Int) (fun (y : Int) => [CV.n IntKind.i64 y]) [o.who, secB b_2]) = cnRs (typ (0 : Int) eI b_3.2)) ∧ ∃ (b_4 : List ByteArray × List Wrt), (cnRs (typ ByteArray.empty (fun (y : ByteArray) => [CV.s y]) [b.1 ++ natS b.2.toNat]) = cnRs (typ ByteArray.empty eS b_4.1) ∧ cnRs (raw [[CV.s b_3.1, CV.b false, CV.ow (3 : Nat) (typ (0 : Int) eI b_3.2)]]) = cnRs (typ dWrt eWrtO b_4.2)) ∧ true = (mayP s o).ok ∧ cnRs (typ ByteArray.empty eS b_4.1) = cnRs (typ ByteArray.empty eS (mayP s o).locks) ∧ cnRs (typ dWrt eWrtO b_4.2) = cnRs (typ dWrt eWrtO (mayP s o).writes))) ∧ ((getS b_1.1 b_1.2).isNone = false → (0 : Nat) < (getV b_1.1 b_1.2).length ∧ ((if true = true then true else false) = true → ∃ (b_2 : List ByteArray), cnRs (typ ByteArray.empty (fun (y : ByteArray) => [CV.s y]) [b.1 ++ natS b.2.toNat]) = cnRs (typ ByteArray.empty eS b_2) ∧ (noP b_2).ok = (mayP s o).ok ∧ cnRs (typ ByteArray.empty eS (noP b_2).locks) = cnRs (typ ByteArray.empty eS (mayP s o).locks) ∧ cnRs (typ dWrt eWrtO (noP b_2).writes) = cnRs (typ dWrt eWrtO (mayP s o).writes)) ∧ ((if true = true then true else false) = false → ∃ (b_2 : Int), o.sec = b_2 ∧ ∃ (b_3 : ByteArray × List Int), (b.1 ++ natS b.2.toNat = b_3.1 ∧ cnRs (typ (0 : Int) (fun (y : Int) => [CV.n IntKind.i64 y]) [o.who, secB b_2]) = cnRs (typ (0 : Int) eI b_3.2)) ∧ ∃ (b_4 : List ByteArray × List Wrt), (cnRs (typ ByteArray.empty (fun (y : ByteArray) => [CV.s y]) [b.1 ++ natS b.2.toNat]) = cnRs (typ ByteArray.empty eS b_4.1) ∧ cnRs (raw [[CV.s b_3.1, CV.b false, CV.ow (3 : Nat) (typ (0 : Int) eI b_3.2)]]) = cnRs (typ dWrt eWrtO b_4.2)) ∧ true = (mayP s o).ok ∧ cnRs (typ ByteArray.empty eS b_4.1) = cnRs (typ ByteArray.empty eS (mayP s o).locks) ∧ cnRs (typ dWrt eWrtO b_4.2) = cnRs (typ dWrt eWrtO (mayP s o).writes))))))) = _ by kernel_rfl) ?_
  obtain ⟨hp, ho, hk1⟩ := hpre
  have hn := op_nums ho
  have hk := op_kind ho
  simp only [cU, eU_iff, Prod.exists, Int.natCast_inj, and_assoc, exists_eq_left', exists_and_left, true_and, and_true, implies_true, and_self, bne_iff_ne, beq_iff_eq, beq_eq_false_iff_ne, ne_eq, forall_eq, Prod.forall, fi_eI, fi_eS, cI, nI_iff, cI_app, cItemO, cItemS, nItemO_iff, nItemS_iff, cWrtO, cWrtS, nWrtO_iff, nWrtS_iff, cStoO, cStoS, nStoO_iff, nStoS_iff, fItemO, fItemS, fWrtO, fWrtS, fStoO, fStoS, fI, frz_app, cWrtO_app, cWrtS_app, cWrtO_1, cItemO_1, opr_ex, zcast, cnRs_raw, cnRs_nil, frz_nil, nil_map, List.map_nil, Int.toNat_natCast, Bool.not_eq_true, Bool.not_eq_false, decide_eq_true_eq, decide_eq_false_iff_not, gt_iff_lt, cS_eq, wr_cons, wr_cnil, wr_nil, i1, i2, i3, i4, i5, i6, exists_eq_left, exists_eq_left', reduceCtorEq, forall_const, false_implies, true_implies, and_true, true_and, Bool.true_eq_false, Bool.false_eq_true]
  rw [kd_nat (c := 99) (n := o.code) (by omega)]
  have hs := plc_sto hp
  have hg := fun v => get_code hp (n := o.code) (v := v)
  refine ⟨fun h => ?_, fun h3 => ⟨fun h => ?_, fun h4 => ⟨fun h => ?_, fun h5 => ?_⟩⟩⟩
  · simp [mayP, h, hp, ho]
  · simp [mayP, h, hp, ho]
  · simp [mayP, h, hp, ho]
  · have h2 : o.kind = 2 := by omega
    refine ⟨by omega, by omega, by decide, hs, ?_⟩
    simp only [mayP, h2, hasV, getV, if_true]
    rcases opt_cases (getS s (kd 99 o.code)) with hk | ⟨v, hk⟩
    · simp [noP, hk]
    · have := (hg v hk).1
      simp [noP, hk, this]
def impl_atMay_c : Con Tryz.prog := ⟨50, 2, [.lend, .lend], [], Sto × Opr, some fun b => plcB 2 b.1 = true ∧ opOk b.2 = true ∧ b.2.kind ≠ 1, fun b => [(0, kSto b.1), (1, kOp b.2)], fun b => [(2, kPlan (mayP b.1 b.2))], [], fun b h => impl_atMay_ok (b.1) (b.2) h⟩
theorem impl_PlcPlan_ok (p : Int) (s : Sto) (tx : Int) (o : Opr) : FunOK Tryz.prog 17 4 [] [(0, kI p), (1, kSto s), (2, kI tx), (3, kOp o)] (· = [(4, kPlan (planI p s tx o))]) := by
  refine fun_to (E := ⟨tab, ctOf [impl_OpPlaces_c, impl_PlcOk_c, impl_isTx_c, ContainsInt_c, impl_atIn_c, impl_atMay_c, impl_named_c, StoGet1_c, impl_refused_c, impl_done_c, impl_set_c], 56, [], [(0, [0, 2, 5, 7, 8, 26, 32, 37, 46, 55]), (1, [0, 2, 5, 7, 8, 25, 26, 32, 37, 46, 55]), (2, [8, 26, 32, 37, 46, 55]), (3, [2, 5, 7, 8, 26, 27, 32, 37, 46, 55]), (4, [2, 5, 7, 8, 26, 27, 28, 32, 37, 46, 55]), (5, [8, 26, 32, 37, 46, 55]), (6, [2, 5, 7, 8, 26, 32, 33, 37, 46, 55]), (7, [8, 26, 32, 37, 46, 55]), (8, [5, 7, 8, 9, 26, 32, 37, 46, 55]), (9, [7, 8, 9, 26, 32, 37, 43, 46, 55]), (10, [8, 26, 32, 37, 46, 55]), (11, [8, 26, 32, 37, 46, 55])], [], [], [], []⟩) tab_ok mixed Tryz.func17 rfl Tryz.ntmps17 (rvs := [.cell 8 41]) Tryz.results17 rfl fun hl => ?_
  refine cast (show (∃ (b : Int × Sto), (p = b.1 ∧ cnRs (typ dItem eItemS s) = cnRs (typ dItem eItemS b.2)) ∧ ((!plcB b.1 b.2) = false → ∃ (b : Int), tx = b ∧ ((!inR b (0 : Int) (29 : Int)) = false → ∃ (b : Opr), (o.kind = b.kind ∧ o.who = b.who ∧ o.inn = b.inn ∧ o.code = b.code ∧ o.sec = b.sec ∧ o.fam = b.fam ∧ o.gen = b.gen) ∧ ∃ (b_1 : List Int × Int), (cnRs (frozenRs (typ (0 : Int) eI (placesL b))) = cnRs (typ (0 : Int) eI b_1.1) ∧ p = b_1.2) ∧ ((!b_1.1.any fun (x : Int) => b_1.2 == x) = true → false = (planI p s tx o).ok ∧ cnRs nilR = cnRs (typ ByteArray.empty eS (planI p s tx o).locks) ∧ cnRs nilR = cnRs (typ dWrt eWrtO (planI p s tx o).writes)) ∧ ((!b_1.1.any fun (x : Int) => b_1.2 == x) = false → ((p == (1 : Int)) = true → ∃ (b : Sto × Opr), (cnRs (typ dItem eItemS s) = cnRs (typ dItem eItemS b.1) ∧ o.kind = b.2.kind ∧ o.who = b.2.who ∧ o.inn = b.2.inn ∧ o.code = b.2.code ∧ o.sec = b.2.sec ∧ o.fam = b.2.fam ∧ o.gen = b.2.gen) ∧ (plcB (1 : Int) b.1 = true ∧ opOk b.2 = true) ∧ (inP b.1 b.2).ok = (planI p s tx o).ok ∧ cnRs (typ ByteArray.empty eS (inP b.1 b.2).locks) = cnRs (typ ByteArray.empty eS (planI p s tx o).locks) ∧ cnRs (typ dWrt eWrtO (inP b.1 b.2).writes) = cnRs (typ dWrt eWrtO (planI p s tx o).writes)) ∧ ((p == (1 : Int)) = false → ((p == (2 : Int)) = true → ∃ (b : Sto × Opr), (cnRs (typ dItem eItemS s) = cnRs (typ dItem eItemS b.1) ∧ o.kind = b.2.kind ∧ o.who = b.2.who ∧ o.inn = b.2.inn ∧ o.code = b.2.code ∧ o.sec = b.2.sec ∧ o.fam = b.2.fam ∧ o.gen = b.2.gen) ∧ (plcB (2 : Int) b.1 = true ∧ opOk b.2 = true ∧ b.2.kind ≠ (1 : Int)) ∧ (mayP b.1 b.2).ok = (planI p s tx o).ok ∧ cnRs (typ ByteArray.empty eS (mayP b.1 b.2).locks) = cnRs (typ ByteArray.empty eS (planI p s tx o).locks) ∧ cnRs (typ dWrt eWrtO (mayP b.1 b.2).writes) = cnRs (typ dWrt eWrtO (planI p s tx o).writes)) ∧ ((p == (2 : Int)) = false → ∃ (b : ByteArray × Int), ((ByteArray.mk #[(97 : UInt8)]) = b.1 ∧ tx = b.2) ∧ ((0 : Int) ≤ b.2 ∧ b.2 < (100 : Int) ∧ b.1.size ≤ (10 : Nat)) ∧ ∃ (b_2 : Sto × ByteArray), (cnRs (typ dItem eItemS s) = cnRs (typ dItem eItemS b_2.1) ∧ b.1 ++ natS b.2.toNat = b_2.2) ∧ stoB b_2.1 = true ∧ ((getS b_2.1 b_2.2).isNone = true → True ∧ ((if true = true then false else true) = true → ∃ (b_3 : List ByteArray), cnRs (typ ByteArray.empty (fun (y : ByteArray) => [CV.s y]) [b.1 ++ natS b.2.toNat]) = cnRs (typ ByteArray.empty eS b_3) ∧ (noP b_3).ok = (planI p s tx o).ok ∧ cnRs (typ ByteArray.empty eS (noP b_3).locks) = cnRs (typ ByteArray.empty eS (planI p s tx o).locks) ∧ cnRs (typ dWrt eWrtO (noP b_3).writes) = cnRs (typ dWrt eWrtO (planI p s tx o).writes)) ∧ ((if true = true then false else true) = false → ∃ (b_3 : ByteArray × List Int), (b.1 ++ natS b.2.toNat = b_3.1 ∧ cnRs (typ (0 : Int) (fun (y : Int) => [CV.n IntKind.i64 y]) [o.kind]) = cnRs (typ (0 : Int) eI b_3.2)) ∧ ∃ (b_4 : List ByteArray × List Wrt), (cnRs (typ ByteArray.empty (fun (y : ByteArray) => [CV.s y]) [b.1 ++ natS b.2.toNat]) = cnRs (typ ByteArray.empty eS b_4.1) ∧ cnRs (raw [[CV.s b_3.1, CV.b false, CV.ow (3 : Nat) (typ (0 : Int) eI b_3.2)]]) = cnRs (typ dWrt eWrtO b_4.2)) ∧ true = (planI p s tx o).ok ∧ cnRs (typ ByteArray.empty eS b_4.1) = cnRs (typ ByteArray.empty eS (planI p s tx o).locks) ∧ cnRs (typ dWrt eWrtO b_4.2) = cnRs (typ dWrt eWrtO (planI p s tx o).writes))) ∧ ((getS b_2.1 b_2.2).isNone = false → (0 : Nat) < (getV b_2.1 b_2.2).length ∧ ((if true = true then true else false) = true → ∃ (b_3 : List ByteArray), cnRs (typ ByteArray.empty (fun (y : ByteArray) => [CV.s y]) [b.1 ++ natS b.2.toNat]) = cnRs (typ ByteArray.empty eS b_3) ∧ (noP b_3).ok = (planI p s tx o).ok ∧ cnRs (typ ByteArray.empty eS (noP b_3).locks) = cnRs (typ ByteArray.empty eS (planI p s tx o).locks) ∧ cnRs (typ dWrt eWrtO (noP b_3).writes) = cnRs (typ dWrt eWrtO (planI p s tx o).writes)) ∧ ((if true = true then true else false) = false → ∃ (b_3 : ByteArray × List Int), (b.1 ++ natS b.2.toNat = b_3.1 ∧ cnRs (typ (0 : Int) (fun (y : Int) => [CV.n IntKind.i64 y]) [o.kind]) = cnRs (typ (0 : Int) eI b_3.2)) ∧ ∃ (b_4 : List ByteArray × List Wrt), (cnRs (typ ByteArray.empty (fun (y : ByteArray) => [CV.s y]) [b.1 ++ natS b.2.toNat]) = cnRs (typ ByteArray.empty eS b_4.1) ∧ cnRs (raw [[CV.s b_3.1, CV.b false, CV.ow (3 : Nat) (typ (0 : Int) eI b_3.2)]]) = cnRs (typ dWrt eWrtO b_4.2)) ∧ true = (planI p s tx o).ok ∧ cnRs (typ ByteArray.empty eS b_4.1) = cnRs (typ ByteArray.empty eS (planI p s tx o).locks) ∧ cnRs (typ dWrt eWrtO b_4.2) = cnRs (typ dWrt eWrtO (planI p s tx o).writes))))))) ∧ ((!inR b (0 : Int) (29 : Int)) = true → false = (planI p s tx o).ok ∧ cnRs nilR = cnRs (typ ByteArray.empty eS (planI p s tx o).locks) ∧ cnRs nilR = cnRs (typ dWrt eWrtO (planI p s tx o).writes))) ∧ ((!plcB b.1 b.2) = true → false = (planI p s tx o).ok ∧ cnRs nilR = cnRs (typ ByteArray.empty eS (planI p s tx o).locks) ∧ cnRs nilR = cnRs (typ dWrt eWrtO (planI p s tx o).writes))) = _ by kernel_rfl) ?_
  simp only [cU, eU_iff, Prod.exists, Int.natCast_inj, and_assoc, exists_eq_left', exists_and_left, true_and, and_true, implies_true, and_self, bne_iff_ne, beq_iff_eq, beq_eq_false_iff_ne, ne_eq, forall_eq, Prod.forall, fi_eI, fi_eS, cI, nI_iff, cI_app, cItemO, cItemS, nItemO_iff, nItemS_iff, cWrtO, cWrtS, nWrtO_iff, nWrtS_iff, cStoO, cStoS, nStoO_iff, nStoS_iff, fItemO, fItemS, fWrtO, fWrtS, fStoO, fStoS, fI, frz_app, cWrtO_app, cWrtS_app, cWrtO_1, cItemO_1, opr_ex, zcast, cnRs_raw, cnRs_nil, frz_nil, nil_map, List.map_nil, Int.toNat_natCast, Bool.not_eq_true, Bool.not_eq_false, decide_eq_true_eq, decide_eq_false_iff_not, gt_iff_lt, cS_eq, wr_cons, wr_cnil, wr_nil, i1, i2, i3, i4, i5, i6, exists_eq_left, exists_eq_left', reduceCtorEq, forall_const, false_implies, true_implies, and_true, true_and, Bool.true_eq_false, Bool.false_eq_true]
  refine ⟨fun h1 => ⟨fun h2 => ⟨fun h3 => ?_, fun h3 => ?_⟩, fun h2 => ?_⟩, fun h1 => ?_⟩
  · have h3 : ((placesL o).any fun x => p == x) = false := by simpa using h3
    simp [planI, h3]
  · have h1 : plcB p s = true := by simpa using h1
    have h2 : inR tx 0 29 = true := by simpa using h2
    have h3 : ((placesL o).any fun x => p == x) = true := by rw [← Bool.not_eq_false']; exact h3
    obtain ⟨ho, hp, hk⟩ := places_mem h3
    have htx : 0 ≤ tx ∧ tx ≤ 29 := by simpa [inR] using h2
    have e : planI p s tx o = planP p s tx o := by simp only [planI, h1, h2, h3, Bool.and_self, if_true]
    rw [e]
    refine ⟨fun e1 => ?_, fun e1 => ⟨fun e2 => ?_, fun e2 => ?_⟩⟩
    · subst e1; simp [h1, ho, planP]
    · subst e2; simp [h1, ho, planP, hk rfl]
    · have hs := plc_sto h1
      refine ⟨by omega, by omega, by decide, hs, ?_⟩
      simp only [planP, e1, e2, if_false, hasV, getV]
      rcases opt_cases (getS s (⟨#[97]⟩ ++ natS tx.toNat)) with hk | ⟨v, hk⟩
      · simp [noP, hk]
      · obtain ⟨it, hm, _, rfl⟩ := get_some hk
        have := (sto_val hs hm).1
        simp [noP, hk]
        omega
  · have h2 : inR tx 0 29 = false := by simpa using h2
    simp [planI, h2]
  · have h1 : plcB p s = false := by simpa using h1
    simp [planI, h1]
def impl_PlcPlan_c : Con Tryz.prog := ⟨17, 4, [.lend, .lend, .lend, .lend], [], Int × Sto × Int × Opr, none, fun b => [(0, kI b.1), (1, kSto b.2.1), (2, kI b.2.2.1), (3, kOp b.2.2.2)], fun b => [(4, kPlan (planI b.1 b.2.1 b.2.2.1 b.2.2.2))], [], fun b h => impl_PlcPlan_ok (b.1) (b.2.1) (b.2.2.1) (b.2.2.2)⟩
end Go.Proofs.AI

namespace Go.Proofs.AI
open Go.RowKit Go.Proofs
set_option linter.unusedVariables false
set_option linter.unusedSimpArgs false
set_option maxRecDepth 100000
theorem ltB_asym {a b : ByteArray} (h : ltB a b = true) : ltB b a = false := by
  cases h2 : ltB b a
  · rfl
  · have := ltB_trans h h2; rw [ltB_irr] at this; cases this
theorem eqB_false {a b : ByteArray} (h : ltB a b = true) : eqB a b = false := by
  cases h2 : eqB a b
  · rfl
  · rw [eqB_iff'.1 h2, ltB_irr] at h; cases h
theorem eqB_false' {a b : ByteArray} (h : ltB b a = true) : eqB a b = false := by
  cases h2 : eqB a b
  · rfl
  · rw [eqB_iff'.1 h2, ltB_irr] at h; cases h
theorem fold_lt (w : Wrt) : ∀ (xs acc : List Item), (∀ x ∈ xs, ltB x.key w.key = true) → xs.foldl (stepW w) (acc, w.del) = (acc ++ xs, w.del)
  | [], acc, _ => by simp
  | x :: xs, acc, h => by
    have h1 := h x (by simp)
    rw [List.foldl_cons, show stepW w (acc, w.del) x = (acc ++ [x], w.del) by simp [stepW, ltB_asym h1, eqB_false h1], fold_lt w xs _ fun y hy => h y (by simp [hy])]
    simp
theorem fold_on (w : Wrt) : ∀ (xs acc : List Item), (∀ x ∈ xs, eqB x.key w.key = false) → xs.foldl (stepW w) (acc, true) = (acc ++ xs, true)
  | [], acc, _ => by simp
  | x :: xs, acc, h => by
    have h1 := h x (by simp)
    rw [List.foldl_cons, show stepW w (acc, true) x = (acc ++ [x], true) by simp [stepW, h1], fold_on w xs _ fun y hy => h y (by simp [hy])]
    simp
def writeI (s : Sto) (w : Wrt) : Sto :=
  if hitS s w.key then (if w.del then s.eraseIdx (posS s w.key) else s.set (posS s w.key) ⟨w.key, w.val⟩)
  else (if w.del then s else s.insertIdx (posS s w.key) ⟨w.key, w.val⟩)
theorem mem_take {α : Type} {d : α} {s : List α} {i : Nat} {x : α} (h : x ∈ s.take i) : ∃ j, j < i ∧ j < s.length ∧ s.getD j d = x := by
  obtain ⟨j, hj, rfl⟩ := List.getElem_of_mem h
  have hj' : j < i ∧ j < s.length := by have := hj; rw [List.length_take] at this; omega
  exact ⟨j, hj'.1, hj'.2, by rw [getD_lt hj'.2, List.getElem_take]⟩
theorem mem_drop {α : Type} {d : α} {s : List α} {i : Nat} {x : α} (h : x ∈ s.drop i) : ∃ j, i ≤ j ∧ j < s.length ∧ s.getD j d = x := by
  obtain ⟨j, hj, rfl⟩ := List.getElem_of_mem h
  have hj' : i + j < s.length := by have := hj; rw [List.length_drop] at this; omega
  exact ⟨i + j, by omega, hj', by rw [getD_lt hj', List.getElem_drop]⟩
theorem ins_td {α : Type} : ∀ (s : List α) (i : Nat) (x : α), i ≤ s.length → s.insertIdx i x = s.take i ++ x :: s.drop i
  | s, 0, x, _ => by simp
  | a :: s, i + 1, x, h => by
    have := ins_td s i x (by simpa using h)
    simp [List.insertIdx_succ_cons, this]
  | [], i + 1, x, h => by simp at h
theorem write_eq {s : Sto} (hs : stoB s = true) (w : Wrt) : writeS s w = writeI s w := by
  have hp := pos_le s w.key
  have hlt : ∀ x ∈ s.take (posS s w.key), ltB x.key w.key = true := fun x hx => by
    obtain ⟨j, h1, h2, rfl⟩ := mem_take (d := dItem) hx
    exact (pos_lt hs h2).2 h1
  have hgt : ∀ j, posS s w.key < j → j < s.length → ltB w.key (s.getD j dItem).key = true := fun j h1 h2 => by
    have h3 : posS s w.key < s.length := by omega
    have h4 := sto_lt hs h1 h2
    have h5 : ¬ ltB (s.getD (posS s w.key) dItem).key w.key = true := fun h => absurd ((pos_lt hs h3).1 h) (Nat.lt_irrefl _)
    have h6 := less_tot w.key.toList (s.getD (posS s w.key) dItem).key.toList
    cases h7 : ltB w.key (s.getD (posS s w.key) dItem).key
    · have h8 : ltB (s.getD (posS s w.key) dItem).key w.key = false := by simpa using h5
      simp only [ltB] at h7 h8
      rw [h7, h8] at h6
      have h9 : eqB (s.getD (posS s w.key) dItem).key w.key = true := by
        simp only [eqB]; simpa using h6
      rw [← eqB_iff'.1 h9]; exact h4
    · exact ltB_trans h7 h4
  have hsplit : s.foldl (stepW w) ([], w.del) = (s.drop (posS s w.key)).foldl (stepW w) (s.take (posS s w.key), w.del) := by
    conv => lhs; rw [← List.take_append_drop (posS s w.key) s]
    rw [List.foldl_append, fold_lt w _ _ hlt]; simp
  simp only [writeS, hsplit]
  by_cases hn : posS s w.key < s.length
  · have hd : s.drop (posS s w.key) = s.getD (posS s w.key) dItem :: s.drop (posS s w.key + 1) := drop_at hn
    have hrest : ∀ x ∈ s.drop (posS s w.key + 1), eqB x.key w.key = false := fun x hx => by
      obtain ⟨j, h1, h2, rfl⟩ := mem_drop (d := dItem) hx
      exact eqB_false' (hgt j (by omega) h2)
    have hnl : ltB (s.getD (posS s w.key) dItem).key w.key = false := by
      rw [← Bool.not_eq_true, pos_lt hs hn]; omega
    rw [hd, List.foldl_cons]
    cases he : eqB (s.getD (posS s w.key) dItem).key w.key
    · have hh : hitS s w.key = false := by simp only [hitS, he, Bool.and_false]
      have hwl : ltB w.key (s.getD (posS s w.key) dItem).key = true := by
        have h6 := less_tot w.key.toList (s.getD (posS s w.key) dItem).key.toList
        simp only [ltB, eqB] at hnl he ⊢
        rw [h6, hnl]; simpa using he
      cases hdel : w.del
      · rw [show stepW w (s.take (posS s w.key), false) (s.getD (posS s w.key) dItem) = (s.take (posS s w.key) ++ [⟨w.key, w.val⟩] ++ [s.getD (posS s w.key) dItem], true) by simp only [stepW, hwl, he]; rfl, fold_on w _ _ hrest]
        simp only [Bool.not_true, cond_false, writeI, hh, hdel, Bool.false_eq_true, if_false]
        rw [List.append_assoc, List.append_assoc, List.singleton_append, List.singleton_append, ← hd]
        rw [ins_td _ _ _ hp]
      · rw [show stepW w (s.take (posS s w.key), true) (s.getD (posS s w.key) dItem) = (s.take (posS s w.key) ++ [s.getD (posS s w.key) dItem], true) by simp only [stepW, hwl, he]; rfl, fold_on w _ _ hrest]
        simp only [Bool.not_true, cond_false, writeI, hh, hdel, Bool.false_eq_true, if_false, if_true]
        rw [List.append_assoc, List.singleton_append, ← hd, List.take_append_drop]
    · have hh : hitS s w.key = true := by simp only [hitS, he, hn, decide_true, Bool.and_true]
      have hwl : ltB w.key (s.getD (posS s w.key) dItem).key = false := by rw [eqB_iff'.1 he, ltB_irr]
      cases hdel : w.del
      · rw [show stepW w (s.take (posS s w.key), false) (s.getD (posS s w.key) dItem) = (s.take (posS s w.key) ++ [⟨w.key, w.val⟩], true) by simp only [stepW, hwl, he, hdel]; rfl, fold_on w _ _ hrest]
        simp only [Bool.not_true, cond_false, writeI, hh, hdel, Bool.false_eq_true, if_false, if_true]
        rw [List.append_assoc, List.singleton_append, List.set_eq_take_append_cons_drop, if_pos hn]
      · rw [show stepW w (s.take (posS s w.key), true) (s.getD (posS s w.key) dItem) = (s.take (posS s w.key), true) by simp only [stepW, hwl, he, hdel]; rfl, fold_on w _ _ hrest]
        simp only [Bool.not_true, cond_false, writeI, hh, hdel, if_true]
        rw [List.eraseIdx_eq_take_drop_succ]
  · have hpe : posS s w.key = s.length := by omega
    have hh : hitS s w.key = false := by simp [hitS, hpe]
    rw [hpe, List.drop_length, List.take_length]
    simp only [List.foldl_nil, writeI, hh, hpe, Bool.false_eq_true, if_false]
    cases hdel : w.del
    · simp [List.insertIdx_length_self]
    · simp
theorem sto_pair {s : Sto} : stoB s = true ↔ s.length ≤ 40 ∧ (∀ x ∈ s, itemB x = true) ∧ s.Pairwise (fun a b => ltB a.key b.key = true) := by
  constructor
  · intro h
    refine ⟨(stoB_small h).1, fun x hx => sto_item h hx, List.pairwise_iff_getElem.2 fun i j hi hj hij => ?_⟩
    have := sto_lt h hij hj
    rwa [getD_lt hi, getD_lt hj] at this
  · intro ⟨h1, h2, h3⟩
    simp only [stoB, Bool.and_eq_true, decide_eq_true_eq, List.all_eq_true, List.mem_range]
    refine ⟨h1, fun k hk => ?_⟩
    simp only [stoP, Bool.and_eq_true, Bool.or_eq_true, beq_iff_eq]
    refine ⟨by rw [getD_lt hk]; exact h2 _ (List.getElem_mem hk), ?_⟩
    by_cases h0 : k = 0
    · exact .inl h0
    · have := List.pairwise_iff_getElem.1 h3 (k - 1) k (by omega) hk (by omega)
      rw [getD_lt hk, getD_lt (show k - 1 < s.length by omega)]
      exact .inr this
theorem pos_gt {s : Sto} (hs : stoB s = true) {k : ByteArray} (hh : hitS s k = false) {j : Nat} (h1 : posS s k ≤ j) (h2 : j < s.length) : ltB k (s.getD j dItem).key = true := by
  have h3 : posS s k < s.length := by omega
  have h4 : ltB (s.getD (posS s k) dItem).key k = false := by rw [← Bool.not_eq_true, pos_lt hs h3]; omega
  have h5 : eqB (s.getD (posS s k) dItem).key k = false := by simpa [hitS, h3] using hh
  have h6 : ltB k (s.getD (posS s k) dItem).key = true := by
    have h7 := less_tot k.toList (s.getD (posS s k) dItem).key.toList
    simp only [ltB, eqB] at h4 h5 ⊢
    rw [h7, h4]; simpa using h5
  by_cases he : posS s k = j
  · rw [← he]; exact h6
  · exact ltB_trans h6 (sto_lt hs (by omega) h2)
theorem write_sto {s : Sto} (hs : stoB s = true) {w : Wrt} (hw : wrtB w = true) (hl : (writeI s w).length ≤ 40) : stoB (writeI s w) = true := by
  obtain ⟨h1, h2, h3⟩ := sto_pair.1 hs
  rw [sto_pair]
  refine ⟨hl, ?_⟩
  have hnew : w.del = false → itemB ⟨w.key, w.val⟩ = true := fun hd => by
    simp only [wrtB, hd, cond_false] at hw; exact hw
  have hp := pos_le s w.key
  simp only [writeI]
  cases hh : hitS s w.key
  · simp only [Bool.false_eq_true, if_false]
    cases hd : w.del
    · simp only [Bool.false_eq_true, if_false]
      rw [ins_td _ _ _ hp]
      refine ⟨fun x hx => ?_, ?_⟩
      · simp only [List.mem_append, List.mem_cons] at hx
        rcases hx with hx | rfl | hx
        · exact h2 _ (List.mem_of_mem_take hx)
        · exact hnew hd
        · exact h2 _ (List.mem_of_mem_drop hx)
      · rw [← List.take_append_drop (posS s w.key) s, List.pairwise_append] at h3
        rw [List.pairwise_append, List.pairwise_cons]
        refine ⟨h3.1, ⟨fun y hy => ?_, h3.2.1⟩, fun a ha b hb => ?_⟩
        · obtain ⟨j, q1, q2, rfl⟩ := mem_drop (d := dItem) hy
          exact pos_gt hs hh q1 q2
        · obtain ⟨j, q1, q2, rfl⟩ := mem_take (d := dItem) ha
          have hlt := (pos_lt hs q2).2 q1
          rcases List.mem_cons.1 hb with rfl | hb
          · exact hlt
          · exact h3.2.2 _ ha _ hb
    · simp only [if_true]; exact ⟨h2, h3⟩
  · simp only [if_true]
    have hh' := hh
    simp only [hitS, Bool.and_eq_true, decide_eq_true_eq] at hh'
    obtain ⟨hn, hk⟩ := hh'
    have hk := eqB_iff'.1 hk
    cases hd : w.del
    · simp only [Bool.false_eq_true, if_false]
      refine ⟨fun x hx => ?_, ?_⟩
      · rcases List.mem_or_eq_of_mem_set hx with hx | rfl
        · exact h2 _ hx
        · exact hnew hd
      · have hm : ∀ {s : Sto}, s.Pairwise (fun a b => ltB a.key b.key = true) ↔ (s.map (·.key)).Pairwise (fun a b => ltB a b = true) := fun {s} => by rw [List.pairwise_map]
        rw [hm] at h3 ⊢
        rw [List.map_set]
        have : (s.map (·.key)).set (posS s w.key) w.key = s.map (·.key) := by
          apply List.ext_getElem?
          intro j
          rw [List.getElem?_set]
          split
          · rename_i he; subst he
            rw [getD_lt hn] at hk
            simp [hn, hk]
          · rfl
        rw [this]; exact h3
    · simp only [if_true]
      exact ⟨fun x hx => h2 _ (List.mem_of_mem_eraseIdx hx), h3.sublist (List.eraseIdx_sublist _ _)⟩
end Go.Proofs.AI
