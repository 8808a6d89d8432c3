/- The byte slice that comes in, as data. Conditions: none. -/
import Derived.KernelRfl
import Derived.Test.YtcmjdjomidhdnaaGreatDoorGloB
import Derived.Test.YtcmjdjomidhdnaaGreatDoorAiE
import Derived.ProofKit
namespace Go.Proofs.AI
open Go.RowKit Go.Proofs
set_option linter.unusedVariables false
set_option linter.unusedSimpArgs false
set_option maxRecDepth 100000
def eU (x : Int) : List CV := [.n .u8 x]
abbrev sU (xs : List Int) : CV := .sh 5 (typ 0 eU xs)
abbrev kRd (xs : List Int) (k : Nat) : Ky := ⟨.box, [.c (sU xs), .c (.n .i64 (k : Int))], []⟩
theorem spec_l20Open_ok (l : List Int) : FunOK Tryz.prog 35 1 [] [(0, k1 (sU l))] (· = [(1, kRd (l.take 2000) 0)]) := by
  refine fun_to (E := ⟨tab, ctOf [], 11, [], [(0, [0, 6, 7]), (1, [0, 5, 6, 7]), (2, [0, 6, 7]), (3, [0, 2, 6, 7, 8, 9, 10])], [], [], [], []⟩) tab_ok mixed Tryz.func35 rfl Tryz.ntmps35 (rvs := [.tmp 2]) Tryz.results35 rfl fun hl => ?_
  refine cast (show ((decide ((↑l.length : Int) > (2000 : Int)) = true → ((0 : Int) ≤ none.getD (0 : Int) ∧ none.getD (0 : Int) ≤ (some (2000 : Int)).getD (↑l.length : Int) ∧ (some (2000 : Int)).getD (↑l.length : Int) ≤ (↑l.length : Int)) ∧ cnRs (cutR (typ (0 : Int) eU l) (none.getD (0 : Int)).toNat ((some (2000 : Int)).getD (↑l.length : Int)).toNat) = cnRs (typ (0 : Int) eU (List.take (2000 : Nat) l)) ∧ (0 : Int) = (↑(0 : Nat) : Int)) ∧ (decide ((↑l.length : Int) > (2000 : Int)) = false → cnRs (typ (0 : Int) eU l) = cnRs (typ (0 : Int) eU (List.take (2000 : Nat) l)) ∧ (0 : Int) = (↑(0 : Nat) : Int))) = _ by kernel_rfl) ?_
  refine ⟨fun h => ⟨⟨by simp, by simp, ?_⟩, ?_, rfl⟩, fun h => ⟨?_, rfl⟩⟩
  · have := ygt (k := 2000) h; simp; omega
  · have := ygt (k := 2000) h
    show cnRs (cutR (typ 0 eU l) 0 2000) = _
    rw [cnRs_cut _ (by simp; omega), cnRs_typ, cnRs_typ, List.drop_zero, List.map_take]
  · have := ngt (k := 2000) h
    rw [List.take_of_length_le this]
def spec_l20Open_c : Con Tryz.prog := ⟨35, 1, [.lend], [], List Int, none, fun b => [(0, k1 (sU b))], fun b => [(1, kRd (b.take 2000) 0)], [], fun b h => spec_l20Open_ok b⟩
def okU (l : List Int) : Prop := ∀ x ∈ l, 0 ≤ x ∧ x < 256
def mixB (l : List Int) (p : Nat) : Nat :=
  let x := (l.getD (p % l.length) 0).toNat * 131 + (l.getD ((p * 7 + 3) % l.length) 0).toNat * 1117 + p * 29 + p / l.length * 53
  x ^^^ (x / 64)
def pickB (l : List Int) (p : Nat) (n : Int) : Int :=
  if n < 1 then 0 else if l.length = 0 then 0 else if p < l.length then (l.getD p 0).tmod n else (mixB l p : Int).tmod n
/-- So many numbers may still be drawn. -/
def rdB (l : List Int) (p k : Nat) : Prop := okU l ∧ p + k ≤ 1000000000
theorem okU_at {l : List Int} (h : okU l) (k : Nat) : 0 ≤ l.getD k 0 ∧ l.getD k 0 < 256 := by
  by_cases hk : k < l.length
  · rw [getD_lt hk]; exact h _ (List.getElem_mem hk)
  · simp [List.getD_eq_getElem?_getD, List.getElem?_eq_none (show l.length ≤ k by omega)]
theorem pick_lt {l : List Int} {p k : Nat} {n : Int} (h : rdB l p k) (hn : 1 ≤ n) : 0 ≤ pickB l p n ∧ pickB l p n < n := by
  unfold pickB
  rw [if_neg (by omega)]
  split
  · omega
  · split
    · exact ⟨Int.tmod_nonneg _ (okU_at h.1 p).1, Int.tmod_lt_of_pos _ (by omega)⟩
    · exact ⟨Int.tmod_nonneg _ (by omega), Int.tmod_lt_of_pos _ (by omega)⟩
theorem pick_nonneg {l : List Int} {p k : Nat} {n : Int} (h : rdB l p k) : 0 ≤ pickB l p n := by
  by_cases hn : 1 ≤ n
  · exact (pick_lt h hn).1
  · unfold pickB; rw [if_pos (by omega)]; omega
theorem mix_run {x : Nat} (hx : x < 4611686018427387904) : IntKind.i64.wrap ((BitVec.ofInt IntKind.i64.bits (x : Int) ^^^ BitVec.ofInt IntKind.i64.bits (IntKind.i64.wrap ((x : Int).tdiv 64))).toNat : Int) = ((x ^^^ (x / 64) : Nat) : Int) := by
  show IntKind.i64.wrap (((BitVec.ofInt 64 (x : Int)) ^^^ (BitVec.ofInt 64 (IntKind.i64.wrap ((x : Int).tdiv 64)))).toNat : Int) = _
  have h1 : (x : Int).tdiv 64 = ((x / 64 : Nat) : Int) := rfl
  have h2 : x / 64 < 4611686018427387904 := by omega
  rw [h1, IntWalk.i64_in ((x / 64 : Nat) : Int) (by omega)]
  have h3 : ∀ y : Nat, BitVec.ofInt 64 (y : Int) = BitVec.ofNat 64 y := fun y => BitVec.ofInt_natCast 64 y
  have hz := Nat.xor_lt_two_pow (n := 62) (x := x) (y := x / 64) (by simpa using hx) (by simpa using h2)
  have hz' : x ^^^ x / 64 < 4611686018427387904 := by simpa using hz
  rw [h3, h3, BitVec.toNat_xor, BitVec.toNat_ofNat, BitVec.toNat_ofNat, Nat.mod_eq_of_lt (by omega), Nat.mod_eq_of_lt (by omega), IntWalk.i64_in _ (by omega)]
@[simp] theorem cU (xs : List Int) : cnRs (typ 0 eU xs) = xs.map eU := by rw [cnRs_typ]; simp [eU]
@[simp] theorem eU_iff {xs ys : List Int} : xs.map eU = ys.map eU ↔ xs = ys := map_iff fun x y h => by simpa [eU] using h
theorem rdB_le {l : List Int} {p k q j : Nat} (h : rdB l p k) (hq : q + j ≤ p + k) : rdB l q j := ⟨h.1, by have := h.2; omega⟩
theorem spec_rd_pick_ok (l : List Int) (p : Nat) (n : Int) (hpre : rdB l p 1) : FunOK Tryz.prog 39 2 [0] [(0, kRd l p), (1, kI n)] (· = [(2, kI (pickB l p n)), (0, kRd l (p + 1))]) := by
  refine fun_to (E := ⟨tab, ctOf [], 99, [0], [(0, [0, 1]), (1, [0, 1]), (2, [0, 1, 24]), (3, [0, 4]), (4, [0, 1, 5]), (5, [0, 1, 5, 36]), (6, [0, 4]), (7, [0, 1, 6]), (8, [0, 1, 6]), (9, [0, 4])], [], [], [], []⟩) tab_ok mixed Tryz.func39 rfl Tryz.ntmps39 (rvs := [.tmp 4]) Tryz.results39 rfl fun hl => ?_
  refine cast (show ((decide (n < (1 : Int)) = false → (((↑l.length : Int) == (0 : Int)) = true → (0 : Int) = pickB l p n ∧ cnRs (typ (0 : Int) eU l) = cnRs (typ (0 : Int) eU l) ∧ IntKind.i64.wrap ((↑p : Int) + (1 : Int)) = (↑(p + (1 : Nat)) : Int)) ∧ (((↑l.length : Int) == (0 : Int)) = false → (decide (IntKind.i64.wrap (IntKind.i64.wrap ((↑p : Int) + (1 : Int)) - (1 : Int)) < (↑l.length : Int)) = true → ((0 : Int) ≤ IntKind.i64.wrap (IntKind.i64.wrap ((↑p : Int) + (1 : Int)) - (1 : Int)) ∧ IntKind.i64.wrap (IntKind.i64.wrap ((↑p : Int) + (1 : Int)) - (1 : Int)) < (↑l.length : Int)) ∧ n ≠ (0 : Int) ∧ (IntKind.i64.wrap (l.getD (IntKind.i64.wrap (IntKind.i64.wrap ((↑p : Int) + (1 : Int)) - (1 : Int))).toNat (0 : Int))).tmod n = pickB l p n ∧ cnRs (typ (0 : Int) eU l) = cnRs (typ (0 : Int) eU l) ∧ IntKind.i64.wrap ((↑p : Int) + (1 : Int)) = (↑(p + (1 : Nat)) : Int)) ∧ (decide (IntKind.i64.wrap (IntKind.i64.wrap ((↑p : Int) + (1 : Int)) - (1 : Int)) < (↑l.length : Int)) = false → (↑l.length : Int) ≠ (0 : Int) ∧ ((0 : Int) ≤ (IntKind.i64.wrap (IntKind.i64.wrap ((↑p : Int) + (1 : Int)) - (1 : Int))).tmod (↑l.length : Int) ∧ (IntKind.i64.wrap (IntKind.i64.wrap ((↑p : Int) + (1 : Int)) - (1 : Int))).tmod (↑l.length : Int) < (↑l.length : Int)) ∧ (↑l.length : Int) ≠ (0 : Int) ∧ ((0 : Int) ≤ (IntKind.i64.wrap (IntKind.i64.wrap (IntKind.i64.wrap (IntKind.i64.wrap ((↑p : Int) + (1 : Int)) - (1 : Int)) * (7 : Int)) + (3 : Int))).tmod (↑l.length : Int) ∧ (IntKind.i64.wrap (IntKind.i64.wrap (IntKind.i64.wrap (IntKind.i64.wrap ((↑p : Int) + (1 : Int)) - (1 : Int)) * (7 : Int)) + (3 : Int))).tmod (↑l.length : Int) < (↑l.length : Int)) ∧ (↑l.length : Int) ≠ (0 : Int) ∧ (64 : Int) ≠ (0 : Int) ∧ n ≠ (0 : Int) ∧ (IntKind.i64.wrap (↑(BitVec.ofInt IntKind.i64.bits (IntKind.i64.wrap (IntKind.i64.wrap (IntKind.i64.wrap (IntKind.i64.wrap (IntKind.i64.wrap (l.getD ((IntKind.i64.wrap (IntKind.i64.wrap ((↑p : Int) + (1 : Int)) - (1 : Int))).tmod (↑l.length : Int)).toNat (0 : Int)) * (131 : Int)) + IntKind.i64.wrap (IntKind.i64.wrap (l.getD ((IntKind.i64.wrap (IntKind.i64.wrap (IntKind.i64.wrap (IntKind.i64.wrap ((↑p : Int) + (1 : Int)) - (1 : Int)) * (7 : Int)) + (3 : Int))).tmod (↑l.length : Int)).toNat (0 : Int)) * (1117 : Int))) + IntKind.i64.wrap (IntKind.i64.wrap (IntKind.i64.wrap ((↑p : Int) + (1 : Int)) - (1 : Int)) * (29 : Int))) + IntKind.i64.wrap (IntKind.i64.wrap ((IntKind.i64.wrap (IntKind.i64.wrap ((↑p : Int) + (1 : Int)) - (1 : Int))).tdiv (↑l.length : Int)) * (53 : Int)))) ^^^ BitVec.ofInt IntKind.i64.bits (IntKind.i64.wrap ((IntKind.i64.wrap (IntKind.i64.wrap (IntKind.i64.wrap (IntKind.i64.wrap (IntKind.i64.wrap (l.getD ((IntKind.i64.wrap (IntKind.i64.wrap ((↑p : Int) + (1 : Int)) - (1 : Int))).tmod (↑l.length : Int)).toNat (0 : Int)) * (131 : Int)) + IntKind.i64.wrap (IntKind.i64.wrap (l.getD ((IntKind.i64.wrap (IntKind.i64.wrap (IntKind.i64.wrap (IntKind.i64.wrap ((↑p : Int) + (1 : Int)) - (1 : Int)) * (7 : Int)) + (3 : Int))).tmod (↑l.length : Int)).toNat (0 : Int)) * (1117 : Int))) + IntKind.i64.wrap (IntKind.i64.wrap (IntKind.i64.wrap ((↑p : Int) + (1 : Int)) - (1 : Int)) * (29 : Int))) + IntKind.i64.wrap (IntKind.i64.wrap ((IntKind.i64.wrap (IntKind.i64.wrap ((↑p : Int) + (1 : Int)) - (1 : Int))).tdiv (↑l.length : Int)) * (53 : Int)))).tdiv (64 : Int)))).toNat : Int)).tmod n = pickB l p n ∧ cnRs (typ (0 : Int) eU l) = cnRs (typ (0 : Int) eU l) ∧ IntKind.i64.wrap ((↑p : Int) + (1 : Int)) = (↑(p + (1 : Nat)) : Int)))) ∧ (decide (n < (1 : Int)) = true → (0 : Int) = pickB l p n ∧ cnRs (typ (0 : Int) eU l) = cnRs (typ (0 : Int) eU l) ∧ IntKind.i64.wrap ((↑p : Int) + (1 : Int)) = (↑(p + (1 : Nat)) : Int))) = _ by kernel_rfl) ?_
  have hp : p + 1 ≤ 1000000000 := hpre.2
  have e1 : IntKind.i64.wrap ((p : Int) + 1) = ((p + 1 : Nat) : Int) := wrapN (by omega)
  have e2 : IntKind.i64.wrap (((p + 1 : Nat) : Int) - 1) = (p : Int) := by rw [IntWalk.i64_in _ (by omega)]; omega
  simp only [e1, e2, true_and, and_true]
  refine ⟨fun hn => ⟨fun hz => ?_, fun hz => ⟨fun hl => ?_, fun hl => ?_⟩⟩, fun hn => ?_⟩
  · simp at hn hz; simp [pickB, hz]
  · simp at hn hz hl
    have hb := okU_at hpre.1 p
    refine ⟨⟨by omega, by omega⟩, by omega, ?_⟩
    simp only [Int.toNat_natCast]
    rw [IntWalk.i64_in _ (by omega)]
    simp [pickB, hl, show ¬ n < 1 by omega, hz]
  · simp at hn hz hl
    have hl0 : 0 < l.length := by cases l <;> simp_all
    have a1 : ((p : Int)).tmod (l.length : Int) = ((p % l.length : Nat) : Int) := rfl
    have w7 : IntKind.i64.wrap ((p : Int) * 7) = ((p * 7 : Nat) : Int) := by rw [IntWalk.i64_in _ (by omega)]; omega
    have w73 : IntKind.i64.wrap (((p * 7 : Nat) : Int) + 3) = ((p * 7 + 3 : Nat) : Int) := by rw [IntWalk.i64_in _ (by omega)]; omega
    have a2 : (((p * 7 + 3 : Nat) : Int)).tmod (l.length : Int) = (((p * 7 + 3) % l.length : Nat) : Int) := rfl
    have a3 : ((p : Int)).tdiv (l.length : Int) = ((p / l.length : Nat) : Int) := rfl
    have l1 := Nat.mod_lt p hl0
    have l2 := Nat.mod_lt (p * 7 + 3) hl0
    have l3 : p / l.length ≤ p := Nat.div_le_self _ _
    simp only [w7, w73, a1, a2, a3, Int.toNat_natCast]
    obtain ⟨b1, b2⟩ := okU_at hpre.1 (p % l.length)
    obtain ⟨b3, b4⟩ := okU_at hpre.1 ((p * 7 + 3) % l.length)
    obtain ⟨u, hu⟩ : ∃ u : Nat, l.getD (p % l.length) 0 = (u : Int) := ⟨_, (Int.toNat_of_nonneg b1).symm⟩
    obtain ⟨v, hv⟩ : ∃ v : Nat, l.getD ((p * 7 + 3) % l.length) 0 = (v : Int) := ⟨_, (Int.toNat_of_nonneg b3).symm⟩
    have hm : mixB l p = (u * 131 + v * 1117 + p * 29 + p / l.length * 53) ^^^ ((u * 131 + v * 1117 + p * 29 + p / l.length * 53) / 64) := by
      simp only [mixB, hu, hv, Int.toNat_natCast]
    have hpk : pickB l p n = ((mixB l p : Nat) : Int).tmod n := by simp [pickB, show ¬ n < 1 by omega, hz, show ¬ p < l.length by omega]
    generalize p / l.length = q at l3 hm hpk ⊢
    simp only [hu, hv]
    rw [hu] at b2; rw [hv] at b4
    refine ⟨by omega, ⟨by omega, by omega⟩, by omega, ⟨by omega, by omega⟩, by omega, by omega, by omega, ?_⟩
    rw [hpk, hm]
    rw [IntWalk.i64_in (u : Int) (by omega), IntWalk.i64_in (v : Int) (by omega), IntWalk.i64_in ((u : Int) * 131) (by omega), IntWalk.i64_in ((v : Int) * 1117) (by omega), IntWalk.i64_in ((u : Int) * 131 + (v : Int) * 1117) (by omega), IntWalk.i64_in ((p : Int) * 29) (by omega), IntWalk.i64_in ((u : Int) * 131 + (v : Int) * 1117 + (p : Int) * 29) (by omega), IntWalk.i64_in (q : Int) (by omega), IntWalk.i64_in ((q : Int) * 53) (by omega)]
    rw [show (u : Int) * 131 + (v : Int) * 1117 + (p : Int) * 29 + (q : Int) * 53 = ((u * 131 + v * 1117 + p * 29 + q * 53 : Nat) : Int) by omega, IntWalk.i64_in ((u * 131 + v * 1117 + p * 29 + q * 53 : Nat) : Int) (by omega)]
    rw [mix_run (by omega)]
  · simp at hn; simp [pickB, show n < 1 by omega]
def spec_rd_pick_c : Con Tryz.prog := ⟨39, 2, [.ptr, .lend], [0], List Int × Nat × Int, some fun b => rdB b.1 b.2.1 1, fun b => [(0, kRd b.1 b.2.1), (1, kI b.2.2)], fun b => [(2, kI (pickB b.1 b.2.1 b.2.2)), (0, kRd b.1 (b.2.1 + 1))], [], fun b h => spec_rd_pick_ok (b.1) (b.2.1) (b.2.2) h⟩
def oddB (l : List Int) (p : Nat) (n : Int) : Bool × Nat := if 0 < n then (pickB l p n == n - 1, p + 1) else (false, p)
theorem odd_le (l : List Int) (p : Nat) (n : Int) : (oddB l p n).2 ≤ p + 1 := by unfold oddB; split <;> simp
theorem spec_rd_odd_ok (l : List Int) (p : Nat) (n : Int) (hpre : rdB l p 1 ∧ n < 1000000) : FunOK Tryz.prog 37 2 [0] [(0, kRd l p), (1, kI n)] (· = [(2, kB (oddB l p n).1), (0, kRd l (oddB l p n).2)]) := by
  refine fun_to (E := ⟨tab, ctOf [spec_rd_pick_c], 15, [0], [(0, [0, 1]), (1, [0, 4])], [], [], [], []⟩) tab_ok mixed Tryz.func37 rfl Tryz.ntmps37 (rvs := [.tmp 4]) Tryz.results37 rfl fun hl => ?_
  refine cast (show ((decide (n > (0 : Int)) = true → ∃ (b : List Int × Nat × Int), ((cnRs (typ (0 : Int) eU l) = cnRs (typ (0 : Int) eU b.1) ∧ (↑p : Int) = (↑b.2.1 : Int)) ∧ n = b.2.2) ∧ rdB b.1 b.2.1 (1 : Nat) ∧ (pickB b.1 b.2.1 b.2.2 == IntKind.i64.wrap (n - (1 : Int))) = (oddB l p n).1 ∧ cnRs (typ (0 : Int) eU b.1) = cnRs (typ (0 : Int) eU l) ∧ (↑(b.2.1 + (1 : Nat)) : Int) = (↑(oddB l p n).2 : Int)) ∧ (decide (n > (0 : Int)) = false → false = (oddB l p n).1 ∧ cnRs (typ (0 : Int) eU l) = cnRs (typ (0 : Int) eU l) ∧ (↑p : Int) = (↑(oddB l p n).2 : Int))) = _ by kernel_rfl) ?_
  simp only [cU, eU_iff, Prod.exists, Int.natCast_inj, and_assoc, exists_eq_left', true_and]
  refine ⟨fun h => ?_, fun h => ?_⟩
  · simp at h
    rw [IntWalk.i64_in _ (by have := hpre.2; omega)]
    simp [oddB, h, hpre.1]
  · simp at h
    simp [oddB, show ¬ 0 < n by omega]
def spec_rd_odd_c : Con Tryz.prog := ⟨37, 2, [.ptr, .lend], [0], List Int × Nat × Int, some fun b => rdB b.1 b.2.1 1 ∧ b.2.2 < 1000000, fun b => [(0, kRd b.1 b.2.1), (1, kI b.2.2)], fun b => [(2, kB (oddB b.1 b.2.1 b.2.2).1), (0, kRd b.1 (oddB b.1 b.2.1 b.2.2).2)], [], fun b h => spec_rd_odd_ok (b.1) (b.2.1) (b.2.2) h⟩
theorem odd_rdB {l : List Int} {p k : Nat} (n : Int) (h : rdB l p (k + 1)) : rdB l (oddB l p n).2 k := rdB_le h (by have := odd_le l p n; omega)
theorem odd_no (l : List Int) (p : Nat) : oddB l p 0 = (false, p) := rfl
theorem mid2 {a b f : Prop} (h : a ∧ b) (hf : f) : a ∧ b ∧ f := ⟨h.1, h.2, hf⟩
def op0 (l : List Int) (p : Nat) : Opr × Nat :=
  let k := 1 + pickB l p 5
  if k = 1 ∨ k = 5 then (⟨k, pickB l (p + 1) 2, pickB l (p + 2) 3, 0, 0, 0, 0⟩, p + 3)
  else if k = 2 then (⟨2, pickB l (p + 1) 2, pickB l (p + 2) 3, pickB l (p + 3) 3, pickB l (p + 4) 3, 0, 0⟩, p + 5)
  else if k = 3 then (⟨3, 0, 0, pickB l (p + 1) 3, pickB l (p + 2) 3, pickB l (p + 3) 3, 0⟩, p + 4)
  else (⟨4, 0, 0, 0, 0, pickB l (p + 1) 3, 1 + pickB l (p + 2) 3⟩, p + 3)
def opBent (l : List Int) (p : Nat) (o : Opr) : Opr × Nat :=
  let k := pickB l p 5
  if k = 0 then ({ o with kind := [0, 6].getD (pickB l (p + 1) 2).toNat 0 }, p + 2)
  else if k = 1 then ({ o with who := [-1, 10, 1].getD (pickB l (p + 1) 3).toNat 0 }, p + 2)
  else if k = 2 then ({ o with code := [-1, 10, 1].getD (pickB l (p + 1) 3).toNat 0 }, p + 2)
  else if k = 3 then ({ o with gen := [-1, 100, 1].getD (pickB l (p + 1) 3).toNat 0 }, p + 2)
  else ({ o with sec := [-1, 100, 99].getD (pickB l (p + 1) 3).toNat 0 }, p + 2)
def opB (l : List Int) (p : Nat) (n : Int) : Opr × Nat :=
  let a := op0 l p
  let q := oddB l a.2 n
  if q.1 = true then opBent l q.2 a.1 else (a.1, q.2)
theorem spec_l20Op_ok (l : List Int) (p : Nat) (n : Int) (hpre : rdB l p 8 ∧ n < 1000000) : FunOK Tryz.prog 40 2 [0] [(0, kRd l p), (1, kI n)] (· = [(2, ⟨.agg, cOp (opB l p n).1, []⟩), (0, kRd l (opB l p n).2)]) := by
  refine fun_to (E := ⟨tab, ctOf [spec_rd_odd_c, spec_rd_pick_c], 92, [0], [(0, [0, 1, 4]), (1, [0, 1, 4, 5]), (2, [0, 1, 4, 5, 11]), (3, [0, 1, 4, 5]), (4, [0, 1, 4, 5, 11, 18]), (5, [0, 1, 4, 5, 11, 18]), (6, [0, 1, 4, 5]), (7, [0, 1, 4, 5, 11, 28]), (8, [0, 1, 4, 5]), (9, [0, 1, 4, 5, 39]), (10, [0, 1, 4, 5]), (11, [0, 4, 5, 50]), (12, [0, 4, 5, 52]), (13, [0, 4, 5]), (14, [0, 4, 5, 52, 59]), (15, [0, 4, 5]), (16, [0, 4, 5, 52, 67]), (17, [0, 4, 5]), (18, [0, 4, 5, 52, 75]), (19, [0, 4, 5]), (20, [0, 4, 5, 83]), (21, [0, 4, 5]), (22, [0, 4])], [], [], [(30002, ⟨List Int × Nat × Int × Int × Int × Int × Int × Int × Int, fun x => [(0, ⟨.box, [.c (sU (x.1)), .c (.n IntKind.i64 (x.2.1 : Int))], []⟩), (1, ⟨.one, [.c (.n IntKind.i64 n)], []⟩), (4, ⟨.box, [.c (.n IntKind.i64 ((0 : Int))), .c (.n IntKind.i64 ((0 : Int))), .c (.n IntKind.i64 ((0 : Int))), .c (.n IntKind.i64 ((0 : Int))), .c (.n IntKind.i64 ((0 : Int))), .c (.n IntKind.i64 ((0 : Int))), .c (.n IntKind.i64 ((0 : Int)))], []⟩), (5, ⟨.box, [.c (.n IntKind.i64 (x.2.2.1)), .c (.n IntKind.i64 (x.2.2.2.1)), .c (.n IntKind.i64 (x.2.2.2.2.1)), .c (.n IntKind.i64 (x.2.2.2.2.2.1)), .c (.n IntKind.i64 (x.2.2.2.2.2.2.1)), .c (.n IntKind.i64 (x.2.2.2.2.2.2.2.1)), .c (.n IntKind.i64 (x.2.2.2.2.2.2.2.2))], []⟩)]⟩)], []⟩) tab_ok mixed Tryz.func40 rfl Tryz.ntmps40 (rvs := [.cell 4 25]) Tryz.results40 rfl fun hl => ?_
  refine cast (show (∃ (b : List Int × Nat × Int), ((cnRs (typ (0 : Int) eU l) = cnRs (typ (0 : Int) eU b.1) ∧ (↑p : Int) = (↑b.2.1 : Int)) ∧ (5 : Int) = b.2.2) ∧ rdB b.1 b.2.1 (1 : Nat) ∧ ∃ (post : List Int × Nat × Int × Int × Int × Int × Int × Int × Int → Prop), (((IntKind.i64.wrap ((1 : Int) + pickB b.1 b.2.1 b.2.2) == (1 : Int)) = true → ∃ (b_1 : List Int × Nat × Int), ((cnRs (typ (0 : Int) eU b.1) = cnRs (typ (0 : Int) eU b_1.1) ∧ (↑(b.2.1 + (1 : Nat)) : Int) = (↑b_1.2.1 : Int)) ∧ (2 : Int) = b_1.2.2) ∧ rdB b_1.1 b_1.2.1 (1 : Nat) ∧ ∃ (b_2 : List Int × Nat × Int), ((cnRs (typ (0 : Int) eU b_1.1) = cnRs (typ (0 : Int) eU b_2.1) ∧ (↑(b_1.2.1 + (1 : Nat)) : Int) = (↑b_2.2.1 : Int)) ∧ (3 : Int) = b_2.2.2) ∧ rdB b_2.1 b_2.2.1 (1 : Nat) ∧ ∃ (x : List Int × Nat × Int × Int × Int × Int × Int × Int × Int), ((cnRs (typ (0 : Int) eU b_2.1) = cnRs (typ (0 : Int) eU x.1) ∧ (↑(b_2.2.1 + (1 : Nat)) : Int) = (↑x.2.1 : Int)) ∧ n = n ∧ ((0 : Int) = (0 : Int) ∧ (0 : Int) = (0 : Int) ∧ (0 : Int) = (0 : Int) ∧ (0 : Int) = (0 : Int) ∧ (0 : Int) = (0 : Int) ∧ (0 : Int) = (0 : Int) ∧ (0 : Int) = (0 : Int)) ∧ IntKind.i64.wrap ((1 : Int) + pickB b.1 b.2.1 b.2.2) = x.2.2.1 ∧ pickB b_1.1 b_1.2.1 b_1.2.2 = x.2.2.2.1 ∧ pickB b_2.1 b_2.2.1 b_2.2.2 = x.2.2.2.2.1 ∧ (0 : Int) = x.2.2.2.2.2.1 ∧ (0 : Int) = x.2.2.2.2.2.2.1 ∧ (0 : Int) = x.2.2.2.2.2.2.2.1 ∧ (0 : Int) = x.2.2.2.2.2.2.2.2) ∧ post x) ∧ ((IntKind.i64.wrap ((1 : Int) + pickB b.1 b.2.1 b.2.2) == (1 : Int)) = false → ((IntKind.i64.wrap ((1 : Int) + pickB b.1 b.2.1 b.2.2) == (5 : Int)) = true → ∃ (b_1 : List Int × Nat × Int), ((cnRs (typ (0 : Int) eU b.1) = cnRs (typ (0 : Int) eU b_1.1) ∧ (↑(b.2.1 + (1 : Nat)) : Int) = (↑b_1.2.1 : Int)) ∧ (2 : Int) = b_1.2.2) ∧ rdB b_1.1 b_1.2.1 (1 : Nat) ∧ ∃ (b_2 : List Int × Nat × Int), ((cnRs (typ (0 : Int) eU b_1.1) = cnRs (typ (0 : Int) eU b_2.1) ∧ (↑(b_1.2.1 + (1 : Nat)) : Int) = (↑b_2.2.1 : Int)) ∧ (3 : Int) = b_2.2.2) ∧ rdB b_2.1 b_2.2.1 (1 : Nat) ∧ ∃ (x : List Int × Nat × Int × Int × Int × Int × Int × Int × Int), ((cnRs (typ (0 : Int) eU b_2.1) = cnRs (typ (0 : Int) eU x.1) ∧ (↑(b_2.2.1 + (1 : Nat)) : Int) = (↑x.2.1 : Int)) ∧ n = n ∧ ((0 : Int) = (0 : Int) ∧ (0 : Int) = (0 : Int) ∧ (0 : Int) = (0 : Int) ∧ (0 : Int) = (0 : Int) ∧ (0 : Int) = (0 : Int) ∧ (0 : Int) = (0 : Int) ∧ (0 : Int) = (0 : Int)) ∧ IntKind.i64.wrap ((1 : Int) + pickB b.1 b.2.1 b.2.2) = x.2.2.1 ∧ pickB b_1.1 b_1.2.1 b_1.2.2 = x.2.2.2.1 ∧ pickB b_2.1 b_2.2.1 b_2.2.2 = x.2.2.2.2.1 ∧ (0 : Int) = x.2.2.2.2.2.1 ∧ (0 : Int) = x.2.2.2.2.2.2.1 ∧ (0 : Int) = x.2.2.2.2.2.2.2.1 ∧ (0 : Int) = x.2.2.2.2.2.2.2.2) ∧ post x) ∧ ((IntKind.i64.wrap ((1 : Int) + pickB b.1 b.2.1 b.2.2) == (5 : Int)) = false → ((IntKind.i64.wrap ((1 : Int) + pickB b.1 b.2.1 b.2.2) == (2 : Int)) = true → ∃ (b_1 : List Int × Nat × Int), ((cnRs (typ (0 : Int) eU b.1) = cnRs (typ (0 : Int) eU b_1.1) ∧ (↑(b.2.1 + (1 : Nat)) : Int) = (↑b_1.2.1 : Int)) ∧ (2 : Int) = b_1.2.2) ∧ rdB b_1.1 b_1.2.1 (1 : Nat) ∧ ∃ (b : List Int × Nat × Int), ((cnRs (typ (0 : Int) eU b_1.1) = cnRs (typ (0 : Int) eU b.1) ∧ (↑(b_1.2.1 + (1 : Nat)) : Int) = (↑b.2.1 : Int)) ∧ (3 : Int) = b.2.2) ∧ rdB b.1 b.2.1 (1 : Nat) ∧ ∃ (b_2 : List Int × Nat × Int), ((cnRs (typ (0 : Int) eU b.1) = cnRs (typ (0 : Int) eU b_2.1) ∧ (↑(b.2.1 + (1 : Nat)) : Int) = (↑b_2.2.1 : Int)) ∧ (3 : Int) = b_2.2.2) ∧ rdB b_2.1 b_2.2.1 (1 : Nat) ∧ ∃ (b_3 : List Int × Nat × Int), ((cnRs (typ (0 : Int) eU b_2.1) = cnRs (typ (0 : Int) eU b_3.1) ∧ (↑(b_2.2.1 + (1 : Nat)) : Int) = (↑b_3.2.1 : Int)) ∧ (3 : Int) = b_3.2.2) ∧ rdB b_3.1 b_3.2.1 (1 : Nat) ∧ ∃ (x : List Int × Nat × Int × Int × Int × Int × Int × Int × Int), ((cnRs (typ (0 : Int) eU b_3.1) = cnRs (typ (0 : Int) eU x.1) ∧ (↑(b_3.2.1 + (1 : Nat)) : Int) = (↑x.2.1 : Int)) ∧ n = n ∧ ((0 : Int) = (0 : Int) ∧ (0 : Int) = (0 : Int) ∧ (0 : Int) = (0 : Int) ∧ (0 : Int) = (0 : Int) ∧ (0 : Int) = (0 : Int) ∧ (0 : Int) = (0 : Int) ∧ (0 : Int) = (0 : Int)) ∧ (2 : Int) = x.2.2.1 ∧ pickB b_1.1 b_1.2.1 b_1.2.2 = x.2.2.2.1 ∧ pickB b.1 b.2.1 b.2.2 = x.2.2.2.2.1 ∧ pickB b_2.1 b_2.2.1 b_2.2.2 = x.2.2.2.2.2.1 ∧ pickB b_3.1 b_3.2.1 b_3.2.2 = x.2.2.2.2.2.2.1 ∧ (0 : Int) = x.2.2.2.2.2.2.2.1 ∧ (0 : Int) = x.2.2.2.2.2.2.2.2) ∧ post x) ∧ ((IntKind.i64.wrap ((1 : Int) + pickB b.1 b.2.1 b.2.2) == (2 : Int)) = false → ((IntKind.i64.wrap ((1 : Int) + pickB b.1 b.2.1 b.2.2) == (3 : Int)) = true → ∃ (b_1 : List Int × Nat × Int), ((cnRs (typ (0 : Int) eU b.1) = cnRs (typ (0 : Int) eU b_1.1) ∧ (↑(b.2.1 + (1 : Nat)) : Int) = (↑b_1.2.1 : Int)) ∧ (3 : Int) = b_1.2.2) ∧ rdB b_1.1 b_1.2.1 (1 : Nat) ∧ ∃ (b : List Int × Nat × Int), ((cnRs (typ (0 : Int) eU b_1.1) = cnRs (typ (0 : Int) eU b.1) ∧ (↑(b_1.2.1 + (1 : Nat)) : Int) = (↑b.2.1 : Int)) ∧ (3 : Int) = b.2.2) ∧ rdB b.1 b.2.1 (1 : Nat) ∧ ∃ (b_2 : List Int × Nat × Int), ((cnRs (typ (0 : Int) eU b.1) = cnRs (typ (0 : Int) eU b_2.1) ∧ (↑(b.2.1 + (1 : Nat)) : Int) = (↑b_2.2.1 : Int)) ∧ (3 : Int) = b_2.2.2) ∧ rdB b_2.1 b_2.2.1 (1 : Nat) ∧ ∃ (x : List Int × Nat × Int × Int × Int × Int × Int × Int × Int), ((cnRs (typ (0 : Int) eU b_2.1) = cnRs (typ (0 : Int) eU x.1) ∧ (↑(b_2.2.1 + (1 : Nat)) : Int) = (↑x.2.1 : Int)) ∧ n = n ∧ ((0 : Int) = (0 : Int) ∧ (0 : Int) = (0 : Int) ∧ (0 : Int) = (0 : Int) ∧ (0 : Int) = (0 : Int) ∧ (0 : Int) = (0 : Int) ∧ (0 : Int) = (0 : Int) ∧ (0 : Int) = (0 : Int)) ∧ (3 : Int) = x.2.2.1 ∧ (0 : Int) = x.2.2.2.1 ∧ (0 : Int) = x.2.2.2.2.1 ∧ pickB b_1.1 b_1.2.1 b_1.2.2 = x.2.2.2.2.2.1 ∧ pickB b.1 b.2.1 b.2.2 = x.2.2.2.2.2.2.1 ∧ pickB b_2.1 b_2.2.1 b_2.2.2 = x.2.2.2.2.2.2.2.1 ∧ (0 : Int) = x.2.2.2.2.2.2.2.2) ∧ post x) ∧ ((IntKind.i64.wrap ((1 : Int) + pickB b.1 b.2.1 b.2.2) == (3 : Int)) = false → ∃ (b_1 : List Int × Nat × Int), ((cnRs (typ (0 : Int) eU b.1) = cnRs (typ (0 : Int) eU b_1.1) ∧ (↑(b.2.1 + (1 : Nat)) : Int) = (↑b_1.2.1 : Int)) ∧ (3 : Int) = b_1.2.2) ∧ rdB b_1.1 b_1.2.1 (1 : Nat) ∧ ∃ (b : List Int × Nat × Int), ((cnRs (typ (0 : Int) eU b_1.1) = cnRs (typ (0 : Int) eU b.1) ∧ (↑(b_1.2.1 + (1 : Nat)) : Int) = (↑b.2.1 : Int)) ∧ (3 : Int) = b.2.2) ∧ rdB b.1 b.2.1 (1 : Nat) ∧ ∃ (x : List Int × Nat × Int × Int × Int × Int × Int × Int × Int), ((cnRs (typ (0 : Int) eU b.1) = cnRs (typ (0 : Int) eU x.1) ∧ (↑(b.2.1 + (1 : Nat)) : Int) = (↑x.2.1 : Int)) ∧ n = n ∧ ((0 : Int) = (0 : Int) ∧ (0 : Int) = (0 : Int) ∧ (0 : Int) = (0 : Int) ∧ (0 : Int) = (0 : Int) ∧ (0 : Int) = (0 : Int) ∧ (0 : Int) = (0 : Int) ∧ (0 : Int) = (0 : Int)) ∧ (4 : Int) = x.2.2.1 ∧ (0 : Int) = x.2.2.2.1 ∧ (0 : Int) = x.2.2.2.2.1 ∧ (0 : Int) = x.2.2.2.2.2.1 ∧ (0 : Int) = x.2.2.2.2.2.2.1 ∧ pickB b_1.1 b_1.2.1 b_1.2.2 = x.2.2.2.2.2.2.2.1 ∧ IntKind.i64.wrap ((1 : Int) + pickB b.1 b.2.1 b.2.2) = x.2.2.2.2.2.2.2.2) ∧ post x))))) ∧ ∀ (x : List Int × Nat × Int × Int × Int × Int × Int × Int × Int), post x → ∃ (b : List Int × Nat × Int), ((cnRs (typ (0 : Int) eU x.1) = cnRs (typ (0 : Int) eU b.1) ∧ (↑x.2.1 : Int) = (↑b.2.1 : Int)) ∧ n = b.2.2) ∧ (rdB b.1 b.2.1 (1 : Nat) ∧ b.2.2 < (1000000 : Int)) ∧ ((oddB b.1 b.2.1 b.2.2).1 = true → ∃ (b_1 : List Int × Nat × Int), ((cnRs (typ (0 : Int) eU b.1) = cnRs (typ (0 : Int) eU b_1.1) ∧ (↑(oddB b.1 b.2.1 b.2.2).2 : Int) = (↑b_1.2.1 : Int)) ∧ (5 : Int) = b_1.2.2) ∧ rdB b_1.1 b_1.2.1 (1 : Nat) ∧ ((pickB b_1.1 b_1.2.1 b_1.2.2 == (0 : Int)) = true → ∃ (b : List Int × Nat × Int), ((cnRs (typ (0 : Int) eU b_1.1) = cnRs (typ (0 : Int) eU b.1) ∧ (↑(b_1.2.1 + (1 : Nat)) : Int) = (↑b.2.1 : Int)) ∧ (2 : Int) = b.2.2) ∧ rdB b.1 b.2.1 (1 : Nat) ∧ ((0 : Int) ≤ pickB b.1 b.2.1 b.2.2 ∧ pickB b.1 b.2.1 b.2.2 < (↑(2 : Nat) : Int)) ∧ (pickB b.1 b.2.1 b.2.2).toNat < (2 : Nat) ∧ ([(0 : Int), (6 : Int)].getD (pickB b.1 b.2.1 b.2.2).toNat (0 : Int) = (opB l p n).1.kind ∧ x.2.2.2.1 = (opB l p n).1.who ∧ x.2.2.2.2.1 = (opB l p n).1.inn ∧ x.2.2.2.2.2.1 = (opB l p n).1.code ∧ x.2.2.2.2.2.2.1 = (opB l p n).1.sec ∧ x.2.2.2.2.2.2.2.1 = (opB l p n).1.fam ∧ x.2.2.2.2.2.2.2.2 = (opB l p n).1.gen) ∧ cnRs (typ (0 : Int) eU b.1) = cnRs (typ (0 : Int) eU l) ∧ (↑(b.2.1 + (1 : Nat)) : Int) = (↑(opB l p n).2 : Int)) ∧ ((pickB b_1.1 b_1.2.1 b_1.2.2 == (0 : Int)) = false → ((pickB b_1.1 b_1.2.1 b_1.2.2 == (1 : Int)) = true → ∃ (b : List Int × Nat × Int), ((cnRs (typ (0 : Int) eU b_1.1) = cnRs (typ (0 : Int) eU b.1) ∧ (↑(b_1.2.1 + (1 : Nat)) : Int) = (↑b.2.1 : Int)) ∧ (3 : Int) = b.2.2) ∧ rdB b.1 b.2.1 (1 : Nat) ∧ ((0 : Int) ≤ pickB b.1 b.2.1 b.2.2 ∧ pickB b.1 b.2.1 b.2.2 < (↑(3 : Nat) : Int)) ∧ (pickB b.1 b.2.1 b.2.2).toNat < (3 : Nat) ∧ (x.2.2.1 = (opB l p n).1.kind ∧ [(-1 : Int), (10 : Int), (1 : Int)].getD (pickB b.1 b.2.1 b.2.2).toNat (0 : Int) = (opB l p n).1.who ∧ x.2.2.2.2.1 = (opB l p n).1.inn ∧ x.2.2.2.2.2.1 = (opB l p n).1.code ∧ x.2.2.2.2.2.2.1 = (opB l p n).1.sec ∧ x.2.2.2.2.2.2.2.1 = (opB l p n).1.fam ∧ x.2.2.2.2.2.2.2.2 = (opB l p n).1.gen) ∧ cnRs (typ (0 : Int) eU b.1) = cnRs (typ (0 : Int) eU l) ∧ (↑(b.2.1 + (1 : Nat)) : Int) = (↑(opB l p n).2 : Int)) ∧ ((pickB b_1.1 b_1.2.1 b_1.2.2 == (1 : Int)) = false → ((pickB b_1.1 b_1.2.1 b_1.2.2 == (2 : Int)) = true → ∃ (b : List Int × Nat × Int), ((cnRs (typ (0 : Int) eU b_1.1) = cnRs (typ (0 : Int) eU b.1) ∧ (↑(b_1.2.1 + (1 : Nat)) : Int) = (↑b.2.1 : Int)) ∧ (3 : Int) = b.2.2) ∧ rdB b.1 b.2.1 (1 : Nat) ∧ ((0 : Int) ≤ pickB b.1 b.2.1 b.2.2 ∧ pickB b.1 b.2.1 b.2.2 < (↑(3 : Nat) : Int)) ∧ (pickB b.1 b.2.1 b.2.2).toNat < (3 : Nat) ∧ (x.2.2.1 = (opB l p n).1.kind ∧ x.2.2.2.1 = (opB l p n).1.who ∧ x.2.2.2.2.1 = (opB l p n).1.inn ∧ [(-1 : Int), (10 : Int), (1 : Int)].getD (pickB b.1 b.2.1 b.2.2).toNat (0 : Int) = (opB l p n).1.code ∧ x.2.2.2.2.2.2.1 = (opB l p n).1.sec ∧ x.2.2.2.2.2.2.2.1 = (opB l p n).1.fam ∧ x.2.2.2.2.2.2.2.2 = (opB l p n).1.gen) ∧ cnRs (typ (0 : Int) eU b.1) = cnRs (typ (0 : Int) eU l) ∧ (↑(b.2.1 + (1 : Nat)) : Int) = (↑(opB l p n).2 : Int)) ∧ ((pickB b_1.1 b_1.2.1 b_1.2.2 == (2 : Int)) = false → ((pickB b_1.1 b_1.2.1 b_1.2.2 == (3 : Int)) = true → ∃ (b : List Int × Nat × Int), ((cnRs (typ (0 : Int) eU b_1.1) = cnRs (typ (0 : Int) eU b.1) ∧ (↑(b_1.2.1 + (1 : Nat)) : Int) = (↑b.2.1 : Int)) ∧ (3 : Int) = b.2.2) ∧ rdB b.1 b.2.1 (1 : Nat) ∧ ((0 : Int) ≤ pickB b.1 b.2.1 b.2.2 ∧ pickB b.1 b.2.1 b.2.2 < (↑(3 : Nat) : Int)) ∧ (pickB b.1 b.2.1 b.2.2).toNat < (3 : Nat) ∧ (x.2.2.1 = (opB l p n).1.kind ∧ x.2.2.2.1 = (opB l p n).1.who ∧ x.2.2.2.2.1 = (opB l p n).1.inn ∧ x.2.2.2.2.2.1 = (opB l p n).1.code ∧ x.2.2.2.2.2.2.1 = (opB l p n).1.sec ∧ x.2.2.2.2.2.2.2.1 = (opB l p n).1.fam ∧ [(-1 : Int), (100 : Int), (1 : Int)].getD (pickB b.1 b.2.1 b.2.2).toNat (0 : Int) = (opB l p n).1.gen) ∧ cnRs (typ (0 : Int) eU b.1) = cnRs (typ (0 : Int) eU l) ∧ (↑(b.2.1 + (1 : Nat)) : Int) = (↑(opB l p n).2 : Int)) ∧ ((pickB b_1.1 b_1.2.1 b_1.2.2 == (3 : Int)) = false → ∃ (b : List Int × Nat × Int), ((cnRs (typ (0 : Int) eU b_1.1) = cnRs (typ (0 : Int) eU b.1) ∧ (↑(b_1.2.1 + (1 : Nat)) : Int) = (↑b.2.1 : Int)) ∧ (3 : Int) = b.2.2) ∧ rdB b.1 b.2.1 (1 : Nat) ∧ ((0 : Int) ≤ pickB b.1 b.2.1 b.2.2 ∧ pickB b.1 b.2.1 b.2.2 < (↑(3 : Nat) : Int)) ∧ (pickB b.1 b.2.1 b.2.2).toNat < (3 : Nat) ∧ (x.2.2.1 = (opB l p n).1.kind ∧ x.2.2.2.1 = (opB l p n).1.who ∧ x.2.2.2.2.1 = (opB l p n).1.inn ∧ x.2.2.2.2.2.1 = (opB l p n).1.code ∧ [(-1 : Int), (100 : Int), (99 : Int)].getD (pickB b.1 b.2.1 b.2.2).toNat (0 : Int) = (opB l p n).1.sec ∧ x.2.2.2.2.2.2.2.1 = (opB l p n).1.fam ∧ x.2.2.2.2.2.2.2.2 = (opB l p n).1.gen) ∧ cnRs (typ (0 : Int) eU b.1) = cnRs (typ (0 : Int) eU l) ∧ (↑(b.2.1 + (1 : Nat)) : Int) = (↑(opB l p n).2 : Int)))))) ∧ ((oddB b.1 b.2.1 b.2.2).1 = false → (x.2.2.1 = (opB l p n).1.kind ∧ x.2.2.2.1 = (opB l p n).1.who ∧ x.2.2.2.2.1 = (opB l p n).1.inn ∧ x.2.2.2.2.2.1 = (opB l p n).1.code ∧ x.2.2.2.2.2.2.1 = (opB l p n).1.sec ∧ x.2.2.2.2.2.2.2.1 = (opB l p n).1.fam ∧ x.2.2.2.2.2.2.2.2 = (opB l p n).1.gen) ∧ cnRs (typ (0 : Int) eU b.1) = cnRs (typ (0 : Int) eU l) ∧ (↑(oddB b.1 b.2.1 b.2.2).2 : Int) = (↑(opB l p n).2 : Int))) = _ by kernel_rfl) ?_
  have hp := hpre.1
  have b1 := pick_lt hp (n := 5) (by omega)
  have e1 : IntKind.i64.wrap (1 + pickB l p 5) = 1 + pickB l p 5 := IntWalk.i64_in _ (by omega)
  simp only [cU, eU_iff, Prod.exists, Int.natCast_inj, and_assoc, exists_eq_left', exists_and_left, true_and, and_self]
  simp only [e1]
  refine ⟨rdB_le hp (by omega), fun z => z = (l, (op0 l p).2, (op0 l p).1.kind, (op0 l p).1.who, (op0 l p).1.inn, (op0 l p).1.code, (op0 l p).1.sec, (op0 l p).1.fam, (op0 l p).1.gen), ?_⟩
  have hq : (op0 l p).2 ≤ p + 5 := by simp only [op0]; split <;> (try split) <;> (try split) <;> simp <;> omega
  have b2 := pick_lt (p := p + 1 + 1) (n := 3) (rdB_le hp (by omega) : rdB l (p + 1 + 1) 1) (by omega)
  have e2 : IntKind.i64.wrap (1 + pickB l (p + 1 + 1) 3) = 1 + pickB l (p + 1 + 1) 3 := IntWalk.i64_in _ (by omega)
  have ho : opB l p n = if (oddB l (op0 l p).2 n).1 = true then opBent l (oddB l (op0 l p).2 n).2 (op0 l p).1 else ((op0 l p).1, (oddB l (op0 l p).2 n).2) := rfl
  have hod := odd_le l (op0 l p).2 n
  simp only [forall_eq, e2, ho]
  have hqp : rdB l (op0 l p).2 3 := rdB_le hp (by omega)
  refine mid2 ?_ ?_
  · clear ho hod
    rcases (by omega : pickB l p 5 = 0 ∨ pickB l p 5 = 1 ∨ pickB l p 5 = 2 ∨ pickB l p 5 = 3 ∨ pickB l p 5 = 4) with h | h | h | h | h
    all_goals
      simp [h, op0, Nat.add_assoc]
      try exact ⟨rdB_le hp (by omega), rdB_le hp (by omega)⟩
      try exact ⟨rdB_le hp (by omega), rdB_le hp (by omega), rdB_le hp (by omega)⟩
      try exact ⟨rdB_le hp (by omega), rdB_le hp (by omega), rdB_le hp (by omega), rdB_le hp (by omega)⟩
  · have k1 := pick_lt (p := (oddB l (op0 l p).2 n).2 + 1) (n := 2) (rdB_le hp (by omega) : rdB l ((oddB l (op0 l p).2 n).2 + 1) 1) (by omega)
    have k2 := pick_lt (p := (oddB l (op0 l p).2 n).2 + 1) (n := 3) (rdB_le hp (by omega) : rdB l ((oddB l (op0 l p).2 n).2 + 1) 1) (by omega)
    have r1 : rdB l ((oddB l (op0 l p).2 n).2) 1 := rdB_le hp (by omega)
    have r2 : rdB l ((oddB l (op0 l p).2 n).2 + 1) 1 := rdB_le hp (by omega)
    refine ⟨rdB_le hp (by omega), hpre.2, ?_⟩
    clear ho hq hod e1 e2 b1 b2 hpre hl hqp hp
    generalize oddB l (op0 l p).2 n = q at *
    generalize (op0 l p).1 = o at *
    have t2 : (pickB l (q.2 + 1) 2).toNat < 2 := by omega
    have t3 : (pickB l (q.2 + 1) 3).toNat < 3 := by omega
    simp only [beq_iff_eq, beq_eq_false_iff_ne, ne_eq]
    repeat' (first | assumption | with_reducible apply And.intro | with_reducible intro _)
    all_goals first | assumption | (simp [opBent, Nat.add_assoc, *]; done) | (simp; omega)
def spec_l20Op_c : Con Tryz.prog := ⟨40, 2, [.ptr, .lend], [0], List Int × Nat × Int, some fun b => rdB b.1 b.2.1 8 ∧ b.2.2 < 1000000, fun b => [(0, kRd b.1 b.2.1), (1, kI b.2.2)], fun b => [(2, ⟨.agg, cOp (opB b.1 b.2.1 b.2.2).1, []⟩), (0, kRd b.1 (opB b.1 b.2.1 b.2.2).2)], [], fun b h => spec_l20Op_ok (b.1) (b.2.1) (b.2.2) h⟩
theorem spec_GloNew_ok  : FunOK Tryz.prog 77 0 [] [] (· = [(0, k1 (oStos [[], [], []]))]) := by
  refine fun_to (E := ⟨tab, ctOf [], 5, [], [(0, []), (1, [0, 1, 2, 3, 4])], [], [], [], []⟩) tab_ok mixed Tryz.func77 rfl Tryz.ntmps77 (rvs := [.tmp 0]) Tryz.results77 rfl fun hl => ?_
  refine cast (show (cnRs (raw [[CV.ow (75 : Nat) nilR], [CV.ow (75 : Nat) nilR], [CV.ow (75 : Nat) nilR]]) = cnRs (typ [] eStoO [[], [], []])) = _ by kernel_rfl) ?_
  rfl
def spec_GloNew_c : Con Tryz.prog := ⟨77, 0, [], [], Unit, none, fun b => [], fun b => [(0, k1 (oStos [[], [], []]))], [], fun b h => spec_GloNew_ok ⟩
end Go.Proofs.AI

namespace Go.Proofs.AI
open Go.RowKit Go.Proofs
set_option linter.unusedVariables false
set_option linter.unusedSimpArgs false
set_option maxRecDepth 100000
theorem cWrtO_app (a b : List Wrt) : cnRs (appR (typ dWrt eWrtO a) (typ dWrt eWrtO b)) = (a ++ b).map nWrtO := by simp
theorem cWrtS_app (a b : List Wrt) : cnRs (appR (typ dWrt eWrtS a) (typ dWrt eWrtS b)) = (a ++ b).map nWrtS := by simp
theorem cWrtO_1 (a : List Wrt) (k : ByteArray) (d : Bool) (v : List Int) : cnRs (appR (typ dWrt eWrtO a) (raw [[CV.s k, CV.b d, CV.ow 3 (typ 0 eI v)]])) = (a ++ [(⟨k, d, v⟩ : Wrt)]).map nWrtO := by simp
theorem cItemO_1 (a : List Item) (k : ByteArray) (v : List Int) : cnRs (appR (typ dItem eItemO a) (raw [[CV.s k, CV.ow 3 (typ 0 eI v)]])) = (a ++ [(⟨k, v⟩ : Item)]).map nItemO := by simp
theorem opr_ex {o : Opr} {P : Opr → Prop} : (∃ x : Opr, o.kind = x.kind ∧ o.who = x.who ∧ o.inn = x.inn ∧ o.code = x.code ∧ o.sec = x.sec ∧ o.fam = x.fam ∧ o.gen = x.gen ∧ P x) ↔ P o :=
  ⟨fun ⟨x, h1, h2, h3, h4, h5, h6, h7, h⟩ => by cases o; cases x; simp_all, fun h => ⟨o, rfl, rfl, rfl, rfl, rfl, rfl, rfl, h⟩⟩
theorem zcast {x : Nat} : ((0 : Int) = (x : Int)) ↔ 0 = x := by omega
theorem frz_nil : frozenRs (nilR : Rows CV) = nilR := rfl
theorem nil_map {α : Type} {g : α → List CV} {a : List α} : ([] = a.map g) ↔ [] = a := by cases a <;> simp
theorem pick4_ok (l : List Int) (p : Nat) (h : rdB l p 1) : FunOK Tryz.prog 39 2 [0] [(0, kRd l p), (1, kI 4)] (· = bif pickB l p 4 == 0 then [(2, kI 0), (0, kRd l (p + 1))] else bif pickB l p 4 == 1 then [(2, kI 1), (0, kRd l (p + 1))] else bif pickB l p 4 == 2 then [(2, kI 2), (0, kRd l (p + 1))] else [(2, kI 3), (0, kRd l (p + 1))]) := by
  have h1 := spec_rd_pick_ok l p 4 h
  have h2 := pick_lt h (n := 4) (by omega)
  rcases (by omega : pickB l p 4 = 0 ∨ pickB l p 4 = 1 ∨ pickB l p 4 = 2 ∨ pickB l p 4 = 3) with e | e | e | e <;> rw [e] at h1 ⊢ <;> exact h1
def pick4_c : Con Tryz.prog := ⟨39, 2, [.ptr, .lend], [0], List Int × Nat, some fun b => rdB b.1 b.2 1, fun b => [(0, kRd b.1 b.2), (1, kI 4)], fun b => [(2, kI 3), (0, kRd b.1 (b.2 + 1))], [(fun b => pickB b.1 b.2 4 == 0, fun b => [(2, kI 0), (0, kRd b.1 (b.2 + 1))]), (fun b => pickB b.1 b.2 4 == 1, fun b => [(2, kI 1), (0, kRd b.1 (b.2 + 1))]), (fun b => pickB b.1 b.2 4 == 2, fun b => [(2, kI 2), (0, kRd b.1 (b.2 + 1))])], fun b h => pick4_ok b.1 b.2 h⟩
@[simp] theorem cI_app (a b : List Int) : cnRs (appR (typ 0 eI a) (typ 0 eI b)) = (a ++ b).map nI := by simp
theorem getD_all {α : Type} {xs : List α} {d : α} {P : α → Prop} (h : ∀ x ∈ xs, P x) (hd : P d) (k : Nat) : P (xs.getD k d) := by
  by_cases hk : k < xs.length
  · rw [getD_lt hk]; exact h _ (List.getElem_mem hk)
  · rw [List.getD_eq_getElem?_getD, List.getElem?_eq_none (by omega)]; exact hd
def valR (l : List Int) : Nat → List Int → Nat → List Int × Nat
  | 0, xs, p => (xs, p)
  | k + 1, xs, p => valR l k (xs ++ [pickB l p 12]) (p + 1)
def valD (l : List Int) (p : Nat) (n : Int) : List Int × Nat :=
  let a := valR l (pickB l (p + 1) 3).toNat [pickB l p 4] (p + 2)
  let q := oddB l a.2 n
  if q.1 = true then ([[], [-1], [10000], [1, 2, 3, 4]].getD (pickB l q.2 4).toNat [], q.2 + 1) else (a.1, q.2)
theorem spec_l20Val_ok (l : List Int) (p : Nat) (n : Int) (hpre : rdB l p 6 ∧ n < 1000000) : FunOK Tryz.prog 80 2 [0] [(0, kRd l p), (1, kI n)] (· = [(2, k1 (oI (valD l p n).1)), (0, kRd l (valD l p n).2)]) := by
  refine fun_to (E := ⟨tab, ctOf [spec_rd_odd_c, spec_rd_pick_c], 34, [0], [(0, [0, 1, 5, 8, 9, 16, 18, 19, 20, 24, 25, 26, 27, 28, 30, 31, 32, 33]), (1, [0, 1, 5, 8, 9, 16, 18, 19, 20, 24, 25, 26, 27, 28, 30, 31, 32, 33]), (2, [0, 1, 5, 6, 8, 9, 16, 18, 19, 20, 24, 25, 26, 27, 28, 30, 31, 32, 33]), (3, [0, 1, 5, 6, 8, 9, 13, 16, 18, 19, 20, 24, 25, 26, 27, 28, 30, 31, 32, 33]), (4, [0, 1, 5, 6, 8, 9, 16, 18, 19, 20, 24, 25, 26, 27, 28, 30, 31, 32, 33]), (5, [0, 1, 5, 6, 8, 9, 16, 18, 19, 20, 24, 25, 26, 27, 28, 30, 31, 32, 33]), (6, [0, 5, 8, 9, 16, 18, 19, 20, 23, 24, 25, 26, 27, 28, 30, 31, 32, 33]), (7, [0, 4, 5, 8, 9, 16, 18, 19, 20, 24, 25, 26, 27, 28, 30, 31, 32, 33]), (8, [0, 4, 5, 8, 9, 16, 18, 19, 20, 24, 25, 26, 27, 28, 30, 31, 32, 33])], [(0, ⟨List Int × Nat × List Int × Int × Int, fun x => [(0, ⟨.box, [.c (sU (x.1)), .c (.n IntKind.i64 (x.2.1 : Int))], []⟩), (1, ⟨.one, [.c (.n IntKind.i64 n)], []⟩), (5, ⟨.one, [.c (oI (x.2.2.1))], []⟩), (6, ⟨.one, [.c (.n IntKind.i64 (x.2.2.2.1))], []⟩), (8, ⟨.one, [.c (.n IntKind.i64 (x.2.2.2.2))], []⟩), (9, ⟨.one, [.c .any], []⟩)]⟩)], [(5, [(1000000, [])]), (8, [(1000000, [])])], [], [(7, [pick4_c])]⟩) tab_ok mixed Tryz.func80 rfl Tryz.ntmps80 (rvs := [.tmp 4]) Tryz.results80 rfl fun hl => ?_
  refine cast (show (∃ (b : List Int × Nat × Int), ((cnRs (typ (0 : Int) eU l) = cnRs (typ (0 : Int) eU b.1) ∧ (↑p : Int) = (↑b.2.1 : Int)) ∧ (4 : Int) = b.2.2) ∧ rdB b.1 b.2.1 (1 : Nat) ∧ ∃ (b_1 : List Int × Nat × Int), ((cnRs (typ (0 : Int) eU b.1) = cnRs (typ (0 : Int) eU b_1.1) ∧ (↑(b.2.1 + (1 : Nat)) : Int) = (↑b_1.2.1 : Int)) ∧ (3 : Int) = b_1.2.2) ∧ rdB b_1.1 b_1.2.1 (1 : Nat) ∧ ∃ (pre : List Int × Nat × List Int × Int × Int → Prop), ∃ (μ : List Int × Nat × List Int × Int × Int → Nat), ∃ (x0 : List Int × Nat × List Int × Int × Int), ((cnRs (typ (0 : Int) eU b_1.1) = cnRs (typ (0 : Int) eU x0.1) ∧ (↑(b_1.2.1 + (1 : Nat)) : Int) = (↑x0.2.1 : Int)) ∧ n = n ∧ cnRs (typ (0 : Int) (fun (y : Int) => [CV.n IntKind.i64 y]) [pickB b.1 b.2.1 b.2.2]) = cnRs (typ (0 : Int) eI x0.2.2.1) ∧ pickB b_1.1 b_1.2.1 b_1.2.2 = x0.2.2.2.1 ∧ pickB b.1 b.2.1 b.2.2 = x0.2.2.2.2 ∧ True) ∧ pre x0 ∧ ∀ (x : List Int × Nat × List Int × Int × Int), pre x → (decide (x.2.2.2.1 > (0 : Int)) = true → ∃ (b : List Int × Nat × Int), ((cnRs (typ (0 : Int) eU x.1) = cnRs (typ (0 : Int) eU b.1) ∧ (↑x.2.1 : Int) = (↑b.2.1 : Int)) ∧ (12 : Int) = b.2.2) ∧ rdB b.1 b.2.1 (1 : Nat) ∧ (x.2.2.1.length + (1 : Nat)) * (8 : Nat) ≤ (140737488355328 : Nat) ∧ ∃ (y : List Int × Nat × List Int × Int × Int), ((cnRs (typ (0 : Int) eU b.1) = cnRs (typ (0 : Int) eU y.1) ∧ (↑(b.2.1 + (1 : Nat)) : Int) = (↑y.2.1 : Int)) ∧ n = n ∧ cnRs (appR (typ (0 : Int) eI x.2.2.1) (typ (0 : Int) (fun (y : Int) => [CV.n IntKind.i64 y]) [pickB b.1 b.2.1 b.2.2])) = cnRs (typ (0 : Int) eI y.2.2.1) ∧ IntKind.i64.wrap (x.2.2.2.1 - (1 : Int)) = y.2.2.2.1 ∧ x.2.2.2.2 = y.2.2.2.2 ∧ True) ∧ pre y ∧ μ y < μ x) ∧ (decide (x.2.2.2.1 > (0 : Int)) = false → ∃ (b : List Int × Nat × Int), ((cnRs (typ (0 : Int) eU x.1) = cnRs (typ (0 : Int) eU b.1) ∧ (↑x.2.1 : Int) = (↑b.2.1 : Int)) ∧ n = b.2.2) ∧ (rdB b.1 b.2.1 (1 : Nat) ∧ b.2.2 < (1000000 : Int)) ∧ ((oddB b.1 b.2.1 b.2.2).1 = true → ∃ (b_2 : List Int × Nat), ((cnRs (typ (0 : Int) eU b.1) = cnRs (typ (0 : Int) eU b_2.1) ∧ (↑(oddB b.1 b.2.1 b.2.2).2 : Int) = (↑b_2.2 : Int)) ∧ (4 : Int) = (4 : Int)) ∧ rdB b_2.1 b_2.2 (1 : Nat) ∧ ((pickB b_2.1 b_2.2 (4 : Int) == (0 : Int)) = true → ((0 : Int) ≤ (0 : Int) ∧ (0 : Int) < (↑(4 : Nat) : Int)) ∧ (0 : Nat) < (4 : Nat) ∧ cnRs (raw []) = cnRs (typ (0 : Int) eI (valD l p n).1) ∧ cnRs (typ (0 : Int) eU b_2.1) = cnRs (typ (0 : Int) eU l) ∧ (↑(b_2.2 + (1 : Nat)) : Int) = (↑(valD l p n).2 : Int)) ∧ ((pickB b_2.1 b_2.2 (4 : Int) == (0 : Int)) = false → ((pickB b_2.1 b_2.2 (4 : Int) == (1 : Int)) = true → ((0 : Int) ≤ (1 : Int) ∧ (1 : Int) < (↑(4 : Nat) : Int)) ∧ (1 : Nat) < (4 : Nat) ∧ cnRs (typ (0 : Int) (fun (y : Int) => [CV.n IntKind.i64 y]) [(-1 : Int)]) = cnRs (typ (0 : Int) eI (valD l p n).1) ∧ cnRs (typ (0 : Int) eU b_2.1) = cnRs (typ (0 : Int) eU l) ∧ (↑(b_2.2 + (1 : Nat)) : Int) = (↑(valD l p n).2 : Int)) ∧ ((pickB b_2.1 b_2.2 (4 : Int) == (1 : Int)) = false → ((pickB b_2.1 b_2.2 (4 : Int) == (2 : Int)) = true → ((0 : Int) ≤ (2 : Int) ∧ (2 : Int) < (↑(4 : Nat) : Int)) ∧ (2 : Nat) < (4 : Nat) ∧ cnRs (typ (0 : Int) (fun (y : Int) => [CV.n IntKind.i64 y]) [(10000 : Int)]) = cnRs (typ (0 : Int) eI (valD l p n).1) ∧ cnRs (typ (0 : Int) eU b_2.1) = cnRs (typ (0 : Int) eU l) ∧ (↑(b_2.2 + (1 : Nat)) : Int) = (↑(valD l p n).2 : Int)) ∧ ((pickB b_2.1 b_2.2 (4 : Int) == (2 : Int)) = false → ((0 : Int) ≤ (3 : Int) ∧ (3 : Int) < (↑(4 : Nat) : Int)) ∧ (3 : Nat) < (4 : Nat) ∧ cnRs (typ (0 : Int) (fun (y : Int) => [CV.n IntKind.i64 y]) [(1 : Int), (2 : Int), (3 : Int), (4 : Int)]) = cnRs (typ (0 : Int) eI (valD l p n).1) ∧ cnRs (typ (0 : Int) eU b_2.1) = cnRs (typ (0 : Int) eU l) ∧ (↑(b_2.2 + (1 : Nat)) : Int) = (↑(valD l p n).2 : Int))))) ∧ ((oddB b.1 b.2.1 b.2.2).1 = false → cnRs (typ (0 : Int) eI x.2.2.1) = cnRs (typ (0 : Int) eI (valD l p n).1) ∧ cnRs (typ (0 : Int) eU b.1) = cnRs (typ (0 : Int) eU l) ∧ (↑(oddB b.1 b.2.1 b.2.2).2 : Int) = (↑(valD l p n).2 : Int)))) = _ by kernel_rfl) ?_
  have hp := hpre.1
  have b1 := pick_lt (p := p + 1) (n := 3) (rdB_le hp (by omega) : rdB l (p + 1) 1) (by omega)
  simp only [cU, eU_iff, Prod.exists, Int.natCast_inj, and_assoc, exists_eq_left', exists_and_left, true_and, and_true, implies_true, and_self, bne_iff_ne, beq_iff_eq, beq_eq_false_iff_ne, ne_eq, forall_eq, Prod.forall, fi_eI, fi_eS, cI, nI_iff, cI_app, cItemO, cItemS, nItemO_iff, nItemS_iff, cWrtO, cWrtS, nWrtO_iff, nWrtS_iff, cStoO, cStoS, nStoO_iff, nStoS_iff, fItemO, fItemS, fWrtO, fWrtS, fStoO, fStoS, fI, frz_app, cWrtO_app, cWrtS_app, cWrtO_1, cItemO_1, opr_ex, zcast, cnRs_raw, cnRs_nil, frz_nil, nil_map, List.map_nil, Int.toNat_natCast, Bool.not_eq_true, Bool.not_eq_false, decide_eq_true_eq, decide_eq_false_iff_not, gt_iff_lt]
  refine ⟨rdB_le hp (by omega), rdB_le hp (by omega), fun x => x.1 = l ∧ 0 ≤ x.2.2.2.1 ∧ valR l x.2.2.2.1.toNat x.2.2.1 x.2.1 = valR l (pickB l (p + 1) 3).toNat [pickB l p 4] (p + 2) ∧ (x.2.1 : Int) + x.2.2.2.1 ≤ p + 4 ∧ x.2.2.1.length + x.2.2.2.1.toNat ≤ 3, ⟨rfl, b1.1, by simp only [Nat.add_assoc], by simp only; omega, by simp only [List.length_singleton]; omega⟩, fun x => x.2.2.2.1.toNat, fun a q xs k j hx => ?_⟩
  obtain ⟨rfl, h1, h2, h3, h4⟩ := hx
  simp only at h1 h2 h3 h4
  refine ⟨fun hk => ?_, fun hk => ?_⟩
  · have e : IntKind.i64.wrap (k - 1) = k - 1 := IntWalk.i64_in _ (by omega)
    simp only [e, true_and]
    obtain ⟨m, rfl⟩ : ∃ m : Nat, k = (m : Int) + 1 := ⟨(k - 1).toNat, by omega⟩
    have e2 : ((m : Int) + 1).toNat = m + 1 := by omega
    have e3 : ((m : Int) + 1 - 1).toNat = m := by omega
    rw [e2, valR] at h2
    simp only [e3, e2]
    refine ⟨rdB_le hp (by omega), by omega, ⟨by omega, h2, by omega, ?_⟩, by omega⟩
    simp only [List.length_append, List.length_singleton]; omega
  · obtain rfl : k = 0 := by omega
    have h5 := pick_lt (p := (oddB a q n).2) (n := 4) (rdB_le hp (by have := odd_le a q n; simp at h3; omega) : rdB a (oddB a q n).2 1) (by omega)
    simp only [Int.toNat_zero, valR] at h2
    have hv : valD a p n = if (oddB a q n).1 = true then ([[], [-1], [10000], [1, 2, 3, 4]].getD (pickB a (oddB a q n).2 4).toNat [], (oddB a q n).2 + 1) else (xs, (oddB a q n).2) := by
      simp only [valD, ← h2]
    rw [hv]
    refine ⟨rdB_le hp (by simp at h3; omega), hpre.2, fun ho => ⟨rdB_le hp (by have := odd_le a q n; simp at h3; omega), ?_⟩, fun ho => by simp [ho]⟩
    rw [if_pos ho]
    rcases (by omega : pickB a (oddB a q n).2 4 = 0 ∨ pickB a (oddB a q n).2 4 = 1 ∨ pickB a (oddB a q n).2 4 = 2 ∨ pickB a (oddB a q n).2 4 = 3) with e | e | e | e <;> simp [e]
def spec_l20Val_c : Con Tryz.prog := ⟨80, 2, [.ptr, .lend], [0], List Int × Nat × Int, some fun b => rdB b.1 b.2.1 6 ∧ b.2.2 < 1000000, fun b => [(0, kRd b.1 b.2.1), (1, kI b.2.2)], fun b => [(2, k1 (oI (valD b.1 b.2.1 b.2.2).1)), (0, kRd b.1 (valD b.1 b.2.1 b.2.2).2)], [], fun b h => spec_l20Val_ok (b.1) (b.2.1) (b.2.2) h⟩
def kLets : List ByteArray := [⟨#[115]⟩, ⟨#[99]⟩, ⟨#[102]⟩, ⟨#[117]⟩, ⟨#[97]⟩]
def kOdds : List ByteArray := [⟨#[]⟩, ⟨#[115]⟩, ⟨#[83, 49]⟩, ⟨#[115, 49, 50, 51]⟩, ⟨#[49, 115]⟩, ⟨#[115, 97]⟩]
def keyD (l : List Int) (p : Nat) (n : Int) : ByteArray × Nat :=
  let s := kLets.getD (pickB l p 5).toNat ByteArray.empty ++ natS ([pickB l (p + 1) 4, pickB l (p + 2) 30].getD (pickB l (p + 3) 2).toNat 0).toNat
  let q := oddB l (p + 4) n
  if q.1 = true then (kOdds.getD (pickB l q.2 6).toNat ByteArray.empty, q.2 + 1) else (s, q.2)
theorem spec_l20Key_ok (l : List Int) (p : Nat) (n : Int) (hpre : rdB l p 6 ∧ n < 1000000) : FunOK Tryz.prog 140 2 [0] [(0, kRd l p), (1, kI n)] (· = [(2, kS (keyD l p n).1), (0, kRd l (keyD l p n).2)]) := by
  refine fun_to (E := ⟨tab, ctOf [spec_rd_odd_c, spec_rd_pick_c, spec_l3Plain_c], 31, [0], [(0, [0, 1]), (1, [0, 1, 5]), (2, [0, 5, 24]), (3, [0, 4]), (4, [0, 4])], [], [], [], []⟩) tab_ok mixed Tryz.func140 rfl Tryz.ntmps140 (rvs := [.tmp 4]) Tryz.results140 rfl fun hl => ?_
  refine cast (show (∃ (b : List Int × Nat × Int), ((cnRs (typ (0 : Int) eU l) = cnRs (typ (0 : Int) eU b.1) ∧ (↑p : Int) = (↑b.2.1 : Int)) ∧ (5 : Int) = b.2.2) ∧ rdB b.1 b.2.1 (1 : Nat) ∧ ((0 : Int) ≤ pickB b.1 b.2.1 b.2.2 ∧ pickB b.1 b.2.1 b.2.2 < (↑(5 : Nat) : Int)) ∧ (pickB b.1 b.2.1 b.2.2).toNat < (5 : Nat) ∧ ∃ (b_1 : List Int × Nat × Int), ((cnRs (typ (0 : Int) eU b.1) = cnRs (typ (0 : Int) eU b_1.1) ∧ (↑(b.2.1 + (1 : Nat)) : Int) = (↑b_1.2.1 : Int)) ∧ (4 : Int) = b_1.2.2) ∧ rdB b_1.1 b_1.2.1 (1 : Nat) ∧ ∃ (b_2 : List Int × Nat × Int), ((cnRs (typ (0 : Int) eU b_1.1) = cnRs (typ (0 : Int) eU b_2.1) ∧ (↑(b_1.2.1 + (1 : Nat)) : Int) = (↑b_2.2.1 : Int)) ∧ (30 : Int) = b_2.2.2) ∧ rdB b_2.1 b_2.2.1 (1 : Nat) ∧ ∃ (b_3 : List Int × Nat × Int), ((cnRs (typ (0 : Int) eU b_2.1) = cnRs (typ (0 : Int) eU b_3.1) ∧ (↑(b_2.2.1 + (1 : Nat)) : Int) = (↑b_3.2.1 : Int)) ∧ (2 : Int) = b_3.2.2) ∧ rdB b_3.1 b_3.2.1 (1 : Nat) ∧ ((0 : Int) ≤ pickB b_3.1 b_3.2.1 b_3.2.2 ∧ pickB b_3.1 b_3.2.1 b_3.2.2 < (↑(2 : Nat) : Int)) ∧ (pickB b_3.1 b_3.2.1 b_3.2.2).toNat < (2 : Nat) ∧ ∃ (b_4 : Int), [pickB b_1.1 b_1.2.1 b_1.2.2, pickB b_2.1 b_2.2.1 b_2.2.2].getD (pickB b_3.1 b_3.2.1 b_3.2.2).toNat (0 : Int) = b_4 ∧ ((0 : Int) ≤ b_4 ∧ b_4 ≤ (1000000 : Int)) ∧ ([(ByteArray.mk #[(115 : UInt8)]), (ByteArray.mk #[(99 : UInt8)]), (ByteArray.mk #[(102 : UInt8)]), (ByteArray.mk #[(117 : UInt8)]), (ByteArray.mk #[(97 : UInt8)])].getD (pickB b.1 b.2.1 b.2.2).toNat ByteArray.empty).size + (natS b_4.toNat).size ≤ (9223372036854775807 : Nat) ∧ ∃ (b_5 : List Int × Nat × Int), ((cnRs (typ (0 : Int) eU b_3.1) = cnRs (typ (0 : Int) eU b_5.1) ∧ (↑(b_3.2.1 + (1 : Nat)) : Int) = (↑b_5.2.1 : Int)) ∧ n = b_5.2.2) ∧ (rdB b_5.1 b_5.2.1 (1 : Nat) ∧ b_5.2.2 < (1000000 : Int)) ∧ ((oddB b_5.1 b_5.2.1 b_5.2.2).1 = true → ∃ (b : List Int × Nat × Int), ((cnRs (typ (0 : Int) eU b_5.1) = cnRs (typ (0 : Int) eU b.1) ∧ (↑(oddB b_5.1 b_5.2.1 b_5.2.2).2 : Int) = (↑b.2.1 : Int)) ∧ (6 : Int) = b.2.2) ∧ rdB b.1 b.2.1 (1 : Nat) ∧ ((0 : Int) ≤ pickB b.1 b.2.1 b.2.2 ∧ pickB b.1 b.2.1 b.2.2 < (↑(6 : Nat) : Int)) ∧ (pickB b.1 b.2.1 b.2.2).toNat < (6 : Nat) ∧ [(ByteArray.mk #[]), (ByteArray.mk #[(115 : UInt8)]), (ByteArray.mk #[(83 : UInt8), (49 : UInt8)]), (ByteArray.mk #[(115 : UInt8), (49 : UInt8), (50 : UInt8), (51 : UInt8)]), (ByteArray.mk #[(49 : UInt8), (115 : UInt8)]), (ByteArray.mk #[(115 : UInt8), (97 : UInt8)])].getD (pickB b.1 b.2.1 b.2.2).toNat ByteArray.empty = (keyD l p n).1 ∧ cnRs (typ (0 : Int) eU b.1) = cnRs (typ (0 : Int) eU l) ∧ (↑(b.2.1 + (1 : Nat)) : Int) = (↑(keyD l p n).2 : Int)) ∧ ((oddB b_5.1 b_5.2.1 b_5.2.2).1 = false → [(ByteArray.mk #[(115 : UInt8)]), (ByteArray.mk #[(99 : UInt8)]), (ByteArray.mk #[(102 : UInt8)]), (ByteArray.mk #[(117 : UInt8)]), (ByteArray.mk #[(97 : UInt8)])].getD (pickB b.1 b.2.1 b.2.2).toNat ByteArray.empty ++ natS b_4.toNat = (keyD l p n).1 ∧ cnRs (typ (0 : Int) eU b_5.1) = cnRs (typ (0 : Int) eU l) ∧ (↑(oddB b_5.1 b_5.2.1 b_5.2.2).2 : Int) = (↑(keyD l p n).2 : Int))) = _ by kernel_rfl) ?_
  have hp := hpre.1
  have b1 := pick_lt (p := p) (n := 5) (rdB_le hp (by omega) : rdB l p 1) (by omega)
  simp only [cU, eU_iff, Prod.exists, Int.natCast_inj, and_assoc, exists_eq_left', exists_and_left, true_and, and_true, implies_true, and_self, bne_iff_ne, beq_iff_eq, beq_eq_false_iff_ne, ne_eq, forall_eq, Prod.forall, fi_eI, fi_eS, cI, nI_iff, cI_app, cItemO, cItemS, nItemO_iff, nItemS_iff, cWrtO, cWrtS, nWrtO_iff, nWrtS_iff, cStoO, cStoS, nStoO_iff, nStoS_iff, fItemO, fItemS, fWrtO, fWrtS, fStoO, fStoS, fI, frz_app, cWrtO_app, cWrtS_app, cWrtO_1, cItemO_1, opr_ex, zcast, cnRs_raw, cnRs_nil, frz_nil, nil_map, List.map_nil, Int.toNat_natCast, Bool.not_eq_true, Bool.not_eq_false, decide_eq_true_eq, decide_eq_false_iff_not, gt_iff_lt]
  have b2 := pick_lt (p := p + 1 + 1 + 1) (n := 2) (rdB_le hp (by omega) : rdB l (p + 1 + 1 + 1) 1) (by omega)
  have b3 := pick_lt (p := p + 1) (n := 4) (rdB_le hp (by omega) : rdB l (p + 1) 1) (by omega)
  have b4 := pick_lt (p := p + 1 + 1) (n := 30) (rdB_le hp (by omega) : rdB l (p + 1 + 1) 1) (by omega)
  have hod := odd_le l (p + 1 + 1 + 1 + 1) n
  have b5 := pick_lt (p := (oddB l (p + 1 + 1 + 1 + 1) n).2) (n := 6) (rdB_le hp (by omega) : rdB l (oddB l (p + 1 + 1 + 1 + 1) n).2 1) (by omega)
  have b6 : 0 ≤ [pickB l (p + 1) 4, pickB l (p + 1 + 1) 30].getD (pickB l (p + 1 + 1 + 1) 2).toNat 0 ∧ [pickB l (p + 1) 4, pickB l (p + 1 + 1) 30].getD (pickB l (p + 1 + 1 + 1) 2).toNat 0 < 30 := by
    rcases (by omega : pickB l (p + 1 + 1 + 1) 2 = 0 ∨ pickB l (p + 1 + 1 + 1) 2 = 1) with e | e <;> rw [e] <;> simp <;> omega
  have b7 := natS_size ([pickB l (p + 1) 4, pickB l (p + 1 + 1) 30].getD (pickB l (p + 1 + 1 + 1) 2).toNat 0).toNat (by omega)
  have b8 : ∀ k, (kLets.getD k ByteArray.empty).size ≤ 1 := fun k => by
    rcases (by omega : k = 0 ∨ k = 1 ∨ k = 2 ∨ k = 3 ∨ k = 4 ∨ 5 ≤ k) with e | e | e | e | e | e
    all_goals first | (subst e; decide) | (rw [List.getD_eq_getElem?_getD, List.getElem?_eq_none (by simpa [kLets] using e)]; decide)
  have b9 := b8 (pickB l p 5).toNat
  have hv : keyD l p n = if (oddB l (p + 1 + 1 + 1 + 1) n).1 = true then (kOdds.getD (pickB l (oddB l (p + 1 + 1 + 1 + 1) n).2 6).toNat ByteArray.empty, (oddB l (p + 1 + 1 + 1 + 1) n).2 + 1) else (kLets.getD (pickB l p 5).toNat ByteArray.empty ++ natS ([pickB l (p + 1) 4, pickB l (p + 1 + 1) 30].getD (pickB l (p + 1 + 1 + 1) 2).toNat 0).toNat, (oddB l (p + 1 + 1 + 1 + 1) n).2) := rfl
  rw [hv]
  simp only [kLets] at b9
  refine ⟨rdB_le hp (by omega), b1.1, b1.2, by omega, rdB_le hp (by omega), rdB_le hp (by omega), rdB_le hp (by omega), b2.1, b2.2, by omega, b6.1, by omega, by omega, rdB_le hp (by omega), hpre.2, fun ho => ⟨rdB_le hp (by omega), b5.1, b5.2, by omega, ?_, ?_⟩, fun ho => ⟨?_, ?_⟩⟩ <;> simp only [ho, if_true, if_false, Bool.false_eq_true] <;> rfl
def spec_l20Key_c : Con Tryz.prog := ⟨140, 2, [.ptr, .lend], [0], List Int × Nat × Int, some fun b => rdB b.1 b.2.1 6 ∧ b.2.2 < 1000000, fun b => [(0, kRd b.1 b.2.1), (1, kI b.2.2)], fun b => [(2, kS (keyD b.1 b.2.1 b.2.2).1), (0, kRd b.1 (keyD b.1 b.2.1 b.2.2).2)], [], fun b h => spec_l20Key_ok (b.1) (b.2.1) (b.2.2) h⟩
theorem key_le (l : List Int) (p : Nat) (n : Int) : (keyD l p n).2 ≤ p + 6 := by
  have := odd_le l (p + 4) n
  simp only [keyD]; split <;> simp only <;> omega
theorem valR_le (l : List Int) : ∀ (k : Nat) (xs : List Int) (p : Nat), (valR l k xs p).2 = p + k
  | 0, xs, p => rfl
  | k + 1, xs, p => by rw [valR, valR_le]; omega
theorem val_le {l : List Int} {p : Nat} (n : Int) (h : rdB l p 2) : (valD l p n).2 ≤ p + 6 := by
  have b1 := pick_lt (p := p + 1) (n := 3) (rdB_le h (by omega) : rdB l (p + 1) 1) (by omega)
  have := odd_le l (valR l (pickB l (p + 1) 3).toNat [pickB l p 4] (p + 2)).2 n
  rw [valR_le] at this
  simp only [valD]; split <;> simp only [valR_le] at * <;> omega
theorem valR_len (l : List Int) : ∀ (k : Nat) (xs : List Int) (p : Nat), (valR l k xs p).1.length = xs.length + k
  | 0, xs, p => rfl
  | k + 1, xs, p => by rw [valR, valR_len]; simp; omega
theorem val_len {l : List Int} {p : Nat} (n : Int) (h : rdB l p 2) : (valD l p n).1.length ≤ 4 := by
  have b1 := pick_lt (p := p + 1) (n := 3) (rdB_le h (by omega) : rdB l (p + 1) 1) (by omega)
  simp only [valD]
  split
  · exact getD_all (P := fun x : List Int => x.length ≤ 4) (by simp) (by simp) _
  · rw [valR_len]; simp; omega
def wrtD (l : List Int) (p : Nat) (n : Int) : Wrt × Nat :=
  let k := keyD l p n
  if pickB l k.2 3 = 0 then
    let q := oddB l (k.2 + 1) n
    (⟨k.1, true, if q.1 = true then [1] else []⟩, q.2)
  else
    let v := valD l (k.2 + 1) n
    (⟨k.1, false, v.1⟩, v.2)
abbrev kWrtO (x : Wrt) : Ky := ⟨.agg, [.c (.s x.key), .c (.b x.del), .c (oI x.val)], []⟩
theorem spec_l20Write_ok (l : List Int) (p : Nat) (n : Int) (hpre : rdB l p 13 ∧ n < 1000000) : FunOK Tryz.prog 115 2 [0] [(0, kRd l p), (1, kI n)] (· = [(2, kWrtO (wrtD l p n).1), (0, kRd l (wrtD l p n).2)]) := by
  refine fun_to (E := ⟨tab, ctOf [spec_rd_odd_c, spec_rd_pick_c, spec_l20Val_c, spec_l20Key_c], 25, [0], [(0, [0, 1, 4, 5, 19, 24]), (1, [0, 1, 4, 5, 19, 24]), (2, [0, 1, 4, 5, 12, 19, 24]), (3, [0, 1, 4, 5, 19, 24]), (4, [0, 4, 5, 16, 19, 24]), (5, [0, 4, 5, 19, 24]), (6, [0, 4, 5, 19, 24]), (7, [0, 4, 5, 19, 24]), (8, [0, 4, 5, 19, 24])], [], [], [], []⟩) tab_ok mixed Tryz.func115 rfl Tryz.ntmps115 (rvs := [.cell 4 55]) Tryz.results115 rfl fun hl => ?_
  refine cast (show (∃ (b : List Int × Nat × Int), ((cnRs (typ (0 : Int) eU l) = cnRs (typ (0 : Int) eU b.1) ∧ (↑p : Int) = (↑b.2.1 : Int)) ∧ n = b.2.2) ∧ (rdB b.1 b.2.1 (6 : Nat) ∧ b.2.2 < (1000000 : Int)) ∧ ∃ (b_1 : List Int × Nat × Int), ((cnRs (typ (0 : Int) eU b.1) = cnRs (typ (0 : Int) eU b_1.1) ∧ (↑(keyD b.1 b.2.1 b.2.2).2 : Int) = (↑b_1.2.1 : Int)) ∧ (3 : Int) = b_1.2.2) ∧ rdB b_1.1 b_1.2.1 (1 : Nat) ∧ ((pickB b_1.1 b_1.2.1 b_1.2.2 == (0 : Int)) = true → ∃ (b_2 : List Int × Nat × Int), ((cnRs (typ (0 : Int) eU b_1.1) = cnRs (typ (0 : Int) eU b_2.1) ∧ (↑(b_1.2.1 + (1 : Nat)) : Int) = (↑b_2.2.1 : Int)) ∧ n = b_2.2.2) ∧ (rdB b_2.1 b_2.2.1 (1 : Nat) ∧ b_2.2.2 < (1000000 : Int)) ∧ ((oddB b_2.1 b_2.2.1 b_2.2.2).1 = true → ((keyD b.1 b.2.1 b.2.2).1 = (wrtD l p n).1.key ∧ true = (wrtD l p n).1.del ∧ cnRs (typ (0 : Int) (fun (y : Int) => [CV.n IntKind.i64 y]) [(1 : Int)]) = cnRs (typ (0 : Int) eI (wrtD l p n).1.val)) ∧ cnRs (typ (0 : Int) eU b_2.1) = cnRs (typ (0 : Int) eU l) ∧ (↑(oddB b_2.1 b_2.2.1 b_2.2.2).2 : Int) = (↑(wrtD l p n).2 : Int)) ∧ ((oddB b_2.1 b_2.2.1 b_2.2.2).1 = false → ((keyD b.1 b.2.1 b.2.2).1 = (wrtD l p n).1.key ∧ true = (wrtD l p n).1.del ∧ cnRs nilR = cnRs (typ (0 : Int) eI (wrtD l p n).1.val)) ∧ cnRs (typ (0 : Int) eU b_2.1) = cnRs (typ (0 : Int) eU l) ∧ (↑(oddB b_2.1 b_2.2.1 b_2.2.2).2 : Int) = (↑(wrtD l p n).2 : Int))) ∧ ((pickB b_1.1 b_1.2.1 b_1.2.2 == (0 : Int)) = false → ∃ (b_2 : List Int × Nat × Int), ((cnRs (typ (0 : Int) eU b_1.1) = cnRs (typ (0 : Int) eU b_2.1) ∧ (↑(b_1.2.1 + (1 : Nat)) : Int) = (↑b_2.2.1 : Int)) ∧ n = b_2.2.2) ∧ (rdB b_2.1 b_2.2.1 (6 : Nat) ∧ b_2.2.2 < (1000000 : Int)) ∧ ((keyD b.1 b.2.1 b.2.2).1 = (wrtD l p n).1.key ∧ false = (wrtD l p n).1.del ∧ cnRs (typ (0 : Int) eI (valD b_2.1 b_2.2.1 b_2.2.2).1) = cnRs (typ (0 : Int) eI (wrtD l p n).1.val)) ∧ cnRs (typ (0 : Int) eU b_2.1) = cnRs (typ (0 : Int) eU l) ∧ (↑(valD b_2.1 b_2.2.1 b_2.2.2).2 : Int) = (↑(wrtD l p n).2 : Int))) = _ by kernel_rfl) ?_
  have hp := hpre.1
  have hk := key_le l p n
  simp only [cU, eU_iff, Prod.exists, Int.natCast_inj, and_assoc, exists_eq_left', exists_and_left, true_and, and_true, implies_true, and_self, bne_iff_ne, beq_iff_eq, beq_eq_false_iff_ne, ne_eq, forall_eq, Prod.forall, fi_eI, fi_eS, cI, nI_iff, cI_app, cItemO, cItemS, nItemO_iff, nItemS_iff, cWrtO, cWrtS, nWrtO_iff, nWrtS_iff, cStoO, cStoS, nStoO_iff, nStoS_iff, fItemO, fItemS, fWrtO, fWrtS, fStoO, fStoS, fI, frz_app, cWrtO_app, cWrtS_app, cWrtO_1, cItemO_1, opr_ex, zcast, cnRs_raw, cnRs_nil, frz_nil, nil_map, List.map_nil, Int.toNat_natCast, Bool.not_eq_true, Bool.not_eq_false, decide_eq_true_eq, decide_eq_false_iff_not, gt_iff_lt]
  refine ⟨rdB_le hp (by omega), hpre.2, rdB_le hp (by omega), fun h0 => ⟨rdB_le hp (by omega), hpre.2, fun ho => ?_, fun ho => ?_⟩, fun h0 => ⟨rdB_le hp (by omega), hpre.2, ?_⟩⟩
  all_goals simp [wrtD, *]
def spec_l20Write_c : Con Tryz.prog := ⟨115, 2, [.ptr, .lend], [0], List Int × Nat × Int, some fun b => rdB b.1 b.2.1 13 ∧ b.2.2 < 1000000, fun b => [(0, kRd b.1 b.2.1), (1, kI b.2.2)], fun b => [(2, kWrtO (wrtD b.1 b.2.1 b.2.2).1), (0, kRd b.1 (wrtD b.1 b.2.1 b.2.2).2)], [], fun b h => spec_l20Write_ok (b.1) (b.2.1) (b.2.2) h⟩
theorem wrt_le {l : List Int} {p : Nat} (n : Int) (h : rdB l p 9) : (wrtD l p n).2 ≤ p + 13 := by
  have h1 := key_le l p n
  have h2 := val_le (l := l) (p := (keyD l p n).2 + 1) n (rdB_le h (by omega))
  have h3 := odd_le l ((keyD l p n).2 + 1) n
  simp only [wrtD]; split <;> simp only <;> omega
theorem wrt_len {l : List Int} {p : Nat} (n : Int) (h : rdB l p 9) : (wrtD l p n).1.val.length ≤ 4 := by
  have h1 := key_le l p n
  have h2 := val_len (l := l) (p := (keyD l p n).2 + 1) n (rdB_le h (by omega))
  simp only [wrtD]
  split
  · simp only; split <;> simp
  · exact h2
def wrtsR (l : List Int) : Nat → List Wrt → Nat → List Wrt × Nat
  | 0, xs, p => (xs, p)
  | k + 1, xs, p => wrtsR l k (xs ++ [(wrtD l p 0).1]) (wrtD l p 0).2
def wrtsD (l : List Int) (p : Nat) (n : Int) : List Wrt × Nat :=
  let a := wrtsR l (pickB l p 6).toNat [] (p + 1)
  let q := oddB l a.2 n
  if q.1 = true then (a.1 ++ [(wrtD l q.2 2).1], (wrtD l q.2 2).2) else (a.1, q.2)
theorem spec_l20Writes_ok (l : List Int) (p : Nat) (n : Int) (hpre : rdB l p 80 ∧ n < 1000000) : FunOK Tryz.prog 79 2 [0] [(0, kRd l p), (1, kI n)] (· = [(2, k1 (oWrts (wrtsD l p n).1)), (0, kRd l (wrtsD l p n).2)]) := by
  refine fun_to (E := ⟨tab, ctOf [spec_rd_odd_c, spec_rd_pick_c, spec_l20Write_c], 28, [0], [(0, [0, 1, 5, 7, 14, 16, 17, 18, 22, 24, 25, 26]), (1, [0, 1, 5, 7, 14, 16, 17, 18, 22, 24, 25, 26]), (2, [0, 1, 5, 6, 7, 14, 16, 17, 18, 22, 24, 25, 26]), (3, [0, 1, 5, 6, 7, 11, 14, 16, 17, 18, 22, 24, 25, 26]), (4, [0, 1, 5, 6, 7, 14, 16, 17, 18, 22, 24, 25, 26]), (5, [0, 1, 5, 6, 7, 14, 16, 17, 18, 22, 24, 25, 26]), (6, [0, 5, 7, 14, 16, 17, 18, 21, 22, 24, 25, 26]), (7, [0, 5, 7, 14, 16, 17, 18, 22, 24, 25, 26]), (8, [0, 4, 5, 7, 14, 16, 17, 18, 22, 24, 25, 26, 27])], [(0, ⟨List Int × Nat × List Wrt × Int, fun x => [(0, ⟨.box, [.c (sU (x.1)), .c (.n IntKind.i64 (x.2.1 : Int))], []⟩), (1, ⟨.one, [.c (.n IntKind.i64 n)], []⟩), (5, ⟨.one, [.c (oWrts (x.2.2.1))], []⟩), (6, ⟨.one, [.c (.n IntKind.i64 (x.2.2.2))], []⟩), (7, ⟨.one, [.c .any], []⟩)]⟩)], [(5, [(1000000, [])]), (7, [(1000000, [])]), (8, [(1000000, [])])], [], []⟩) tab_ok mixed Tryz.func79 rfl Tryz.ntmps79 (rvs := [.tmp 4]) Tryz.results79 rfl fun hl => ?_
  refine cast (show (∃ (b : List Int × Nat × Int), ((cnRs (typ (0 : Int) eU l) = cnRs (typ (0 : Int) eU b.1) ∧ (↑p : Int) = (↑b.2.1 : Int)) ∧ (6 : Int) = b.2.2) ∧ rdB b.1 b.2.1 (1 : Nat) ∧ ∃ (pre : List Int × Nat × List Wrt × Int → Prop), ∃ (μ : List Int × Nat × List Wrt × Int → Nat), ∃ (x0 : List Int × Nat × List Wrt × Int), ((cnRs (typ (0 : Int) eU b.1) = cnRs (typ (0 : Int) eU x0.1) ∧ (↑(b.2.1 + (1 : Nat)) : Int) = (↑x0.2.1 : Int)) ∧ n = n ∧ cnRs (raw []) = cnRs (typ dWrt eWrtO x0.2.2.1) ∧ pickB b.1 b.2.1 b.2.2 = x0.2.2.2 ∧ True) ∧ pre x0 ∧ ∀ (x : List Int × Nat × List Wrt × Int), pre x → (decide (x.2.2.2 > (0 : Int)) = true → ∃ (b : List Int × Nat × Int), ((cnRs (typ (0 : Int) eU x.1) = cnRs (typ (0 : Int) eU b.1) ∧ (↑x.2.1 : Int) = (↑b.2.1 : Int)) ∧ (0 : Int) = b.2.2) ∧ (rdB b.1 b.2.1 (13 : Nat) ∧ b.2.2 < (1000000 : Int)) ∧ (x.2.2.1.length + (1 : Nat)) * (48 : Nat) ≤ (140737488355328 : Nat) ∧ ∃ (y : List Int × Nat × List Wrt × Int), ((cnRs (typ (0 : Int) eU b.1) = cnRs (typ (0 : Int) eU y.1) ∧ (↑(wrtD b.1 b.2.1 b.2.2).2 : Int) = (↑y.2.1 : Int)) ∧ n = n ∧ cnRs (appR (typ dWrt eWrtO x.2.2.1) (raw [[CV.s (wrtD b.1 b.2.1 b.2.2).1.key, CV.b (wrtD b.1 b.2.1 b.2.2).1.del, CV.ow (3 : Nat) (typ (0 : Int) eI (wrtD b.1 b.2.1 b.2.2).1.val)]])) = cnRs (typ dWrt eWrtO y.2.2.1) ∧ IntKind.i64.wrap (x.2.2.2 - (1 : Int)) = y.2.2.2 ∧ True) ∧ pre y ∧ μ y < μ x) ∧ (decide (x.2.2.2 > (0 : Int)) = false → ∃ (b : List Int × Nat × Int), ((cnRs (typ (0 : Int) eU x.1) = cnRs (typ (0 : Int) eU b.1) ∧ (↑x.2.1 : Int) = (↑b.2.1 : Int)) ∧ n = b.2.2) ∧ (rdB b.1 b.2.1 (1 : Nat) ∧ b.2.2 < (1000000 : Int)) ∧ ((oddB b.1 b.2.1 b.2.2).1 = true → ∃ (b_1 : List Int × Nat × Int), ((cnRs (typ (0 : Int) eU b.1) = cnRs (typ (0 : Int) eU b_1.1) ∧ (↑(oddB b.1 b.2.1 b.2.2).2 : Int) = (↑b_1.2.1 : Int)) ∧ (2 : Int) = b_1.2.2) ∧ (rdB b_1.1 b_1.2.1 (13 : Nat) ∧ b_1.2.2 < (1000000 : Int)) ∧ (x.2.2.1.length + (1 : Nat)) * (48 : Nat) ≤ (140737488355328 : Nat) ∧ cnRs (appR (typ dWrt eWrtO x.2.2.1) (raw [[CV.s (wrtD b_1.1 b_1.2.1 b_1.2.2).1.key, CV.b (wrtD b_1.1 b_1.2.1 b_1.2.2).1.del, CV.ow (3 : Nat) (typ (0 : Int) eI (wrtD b_1.1 b_1.2.1 b_1.2.2).1.val)]])) = cnRs (typ dWrt eWrtO (wrtsD l p n).1) ∧ cnRs (typ (0 : Int) eU b_1.1) = cnRs (typ (0 : Int) eU l) ∧ (↑(wrtD b_1.1 b_1.2.1 b_1.2.2).2 : Int) = (↑(wrtsD l p n).2 : Int)) ∧ ((oddB b.1 b.2.1 b.2.2).1 = false → cnRs (typ dWrt eWrtO x.2.2.1) = cnRs (typ dWrt eWrtO (wrtsD l p n).1) ∧ cnRs (typ (0 : Int) eU b.1) = cnRs (typ (0 : Int) eU l) ∧ (↑(oddB b.1 b.2.1 b.2.2).2 : Int) = (↑(wrtsD l p n).2 : Int)))) = _ by kernel_rfl) ?_
  have hp := hpre.1
  have b1 := pick_lt (p := p) (n := 6) (rdB_le hp (by omega) : rdB l p 1) (by omega)
  simp only [cU, eU_iff, Prod.exists, Int.natCast_inj, and_assoc, exists_eq_left', exists_and_left, true_and, and_true, implies_true, and_self, bne_iff_ne, beq_iff_eq, beq_eq_false_iff_ne, ne_eq, forall_eq, Prod.forall, fi_eI, fi_eS, cI, nI_iff, cI_app, cItemO, cItemS, nItemO_iff, nItemS_iff, cWrtO, cWrtS, nWrtO_iff, nWrtS_iff, cStoO, cStoS, nStoO_iff, nStoS_iff, fItemO, fItemS, fWrtO, fWrtS, fStoO, fStoS, fI, frz_app, cWrtO_app, cWrtS_app, cWrtO_1, cItemO_1, opr_ex, zcast, cnRs_raw, cnRs_nil, frz_nil, nil_map, List.map_nil, Int.toNat_natCast, Bool.not_eq_true, Bool.not_eq_false, decide_eq_true_eq, decide_eq_false_iff_not, gt_iff_lt]
  refine ⟨rdB_le hp (by omega), fun x => x.1 = l ∧ 0 ≤ x.2.2.2 ∧ wrtsR l x.2.2.2.toNat x.2.2.1 x.2.1 = wrtsR l (pickB l p 6).toNat [] (p + 1) ∧ (x.2.1 : Int) + 13 * x.2.2.2 ≤ p + 66 ∧ x.2.2.1.length + x.2.2.2.toNat ≤ 5, ⟨rfl, b1.1, rfl, by simp only; omega, by simp only [List.length_nil]; omega⟩, fun x => x.2.2.2.toNat, fun a q xs k hx => ?_⟩
  obtain ⟨rfl, h1, h2, h3, h4⟩ := hx
  simp only at h1 h2 h3 h4
  refine ⟨fun hk => ?_, fun hk => ?_⟩
  · have e : IntKind.i64.wrap (k - 1) = k - 1 := IntWalk.i64_in _ (by omega)
    simp only [e, true_and]
    obtain ⟨m, rfl⟩ : ∃ m : Nat, k = (m : Int) + 1 := ⟨(k - 1).toNat, by omega⟩
    have e2 : ((m : Int) + 1).toNat = m + 1 := by omega
    have e3 : ((m : Int) + 1 - 1).toNat = m := by omega
    rw [e2, wrtsR] at h2
    have hw := wrt_le (l := a) (p := q) 0 (rdB_le hp (by omega))
    simp only [e3, e2]
    refine ⟨rdB_le hp (by omega), by omega, by omega, ⟨by omega, h2, by omega, ?_⟩, by omega⟩
    simp only [List.length_append, List.length_singleton]; omega
  · obtain rfl : k = 0 := by omega
    simp only [Int.toNat_zero, wrtsR] at h2
    have hod := odd_le a q n
    have hv : wrtsD a p n = if (oddB a q n).1 = true then (xs ++ [(wrtD a (oddB a q n).2 2).1], (wrtD a (oddB a q n).2 2).2) else (xs, (oddB a q n).2) := by
      simp only [wrtsD, ← h2]
    rw [hv]
    simp only [Int.mul_zero, Int.add_zero, Int.toNat_zero, Nat.add_zero] at h3 h4
    refine ⟨rdB_le hp (by omega), hpre.2, fun ho => ⟨rdB_le hp (by omega), by omega, by omega, ?_⟩, fun ho => by simp [ho]⟩
    simp [ho]
def spec_l20Writes_c : Con Tryz.prog := ⟨79, 2, [.ptr, .lend], [0], List Int × Nat × Int, some fun b => rdB b.1 b.2.1 80 ∧ b.2.2 < 1000000, fun b => [(0, kRd b.1 b.2.1), (1, kI b.2.2)], fun b => [(2, k1 (oWrts (wrtsD b.1 b.2.1 b.2.2).1)), (0, kRd b.1 (wrtsD b.1 b.2.1 b.2.2).2)], [], fun b h => spec_l20Writes_ok (b.1) (b.2.1) (b.2.2) h⟩
theorem wrtsR_le {l : List Int} : ∀ (k : Nat) (xs : List Wrt) (p : Nat), rdB l p (13 * k + 9) → (wrtsR l k xs p).2 ≤ p + 13 * k ∧ (wrtsR l k xs p).1.length = xs.length + k
  | 0, xs, p, h => ⟨by simp [wrtsR], rfl⟩
  | k + 1, xs, p, h => by
    have h1 := wrt_le (l := l) (p := p) 0 (rdB_le h (by omega))
    have h2 := wrtsR_le k (xs ++ [(wrtD l p 0).1]) (wrtD l p 0).2 (rdB_le h (by omega))
    rw [wrtsR]
    refine ⟨by omega, ?_⟩
    rw [h2.2]; simp; omega
theorem wrts_le {l : List Int} {p : Nat} (n : Int) (h : rdB l p 80) : (wrtsD l p n).2 ≤ p + 80 ∧ (wrtsD l p n).1.length ≤ 6 := by
  have b1 := pick_lt (p := p) (n := 6) (rdB_le h (by omega) : rdB l p 1) (by omega)
  have h1 := wrtsR_le (l := l) (pickB l p 6).toNat [] (p + 1) (rdB_le h (by omega))
  have h2 := odd_le l (wrtsR l (pickB l p 6).toNat [] (p + 1)).2 n
  have h3 := wrt_le (l := l) (p := (oddB l (wrtsR l (pickB l p 6).toNat [] (p + 1)).2 n).2) 2 (rdB_le h (by omega))
  have h4 := h1.2
  simp only [List.length_nil] at h4
  simp only [wrtsD]
  split
  · refine ⟨by simp only; omega, ?_⟩
    simp only [List.length_append, List.length_singleton]; omega
  · exact ⟨by simp only; omega, by simp only; omega⟩
def stoD (l : List Int) (p : Nat) (n : Int) : Sto × Nat :=
  let a := wrtsD l p 0
  let b := wrtsD l a.2 0
  let s := doS [] (a.1 ++ b.1)
  let q := oddB l b.2 n
  if q.1 = true then
    (if pickB l q.2 3 = 0 then (s ++ [⟨⟨#[97, 48]⟩, [1]⟩], q.2 + 1)
    else if pickB l q.2 3 = 1 then (s ++ [⟨⟨#[122, 57]⟩, (valD l (q.2 + 1) 1).1⟩], (valD l (q.2 + 1) 1).2)
    else (s ++ List.replicate (41 - s.length) ⟨⟨#[122, 57]⟩, [1]⟩, q.2 + 1))
  else (s, q.2)
theorem spec_l20Sto_ok (l : List Int) (p : Nat) (n : Int) (hpre : rdB l p 170 ∧ n < 1000000) : FunOK Tryz.prog 38 2 [0] [(0, kRd l p), (1, kI n)] (· = [(2, ⟨.agg, [.c (oItems (stoD l p n).1)], []⟩), (0, kRd l (stoD l p n).2)]) := by
  refine fun_to (E := ⟨tab, ctOf [spec_rd_odd_c, spec_rd_pick_c, spec_StoDo_c, spec_l20Writes_c, spec_l20Val_c], 49, [0], [(0, [0, 1, 4, 5, 48]), (1, [0, 1, 4, 5, 48]), (2, [0, 4, 5, 15, 48]), (3, [0, 4, 5, 17, 48]), (4, [0, 4, 5, 21, 48]), (5, [0, 4, 5, 48]), (6, [0, 4, 5, 17, 29, 48]), (7, [0, 4, 5, 48]), (8, [0, 4, 5, 38, 48]), (9, [0, 4, 5, 48]), (10, [0, 4, 5, 48])], [(1, ⟨List Int × Nat × List Item, fun x => [(0, ⟨.box, [.c (sU (x.1)), .c (.n IntKind.i64 (x.2.1 : Int))], []⟩), (4, ⟨.box, [.c (.ow 75 nilR)], []⟩), (5, ⟨.box, [.c (oItems (x.2.2))], []⟩)]⟩)], [], [], []⟩) tab_ok mixed Tryz.func38 rfl Tryz.ntmps38 (rvs := [.cell 4 35]) Tryz.results38 rfl fun hl => ?_
  refine cast (show (∃ (b : List Int × Nat × Int), ((cnRs (typ (0 : Int) eU l) = cnRs (typ (0 : Int) eU b.1) ∧ (↑p : Int) = (↑b.2.1 : Int)) ∧ (0 : Int) = b.2.2) ∧ (rdB b.1 b.2.1 (80 : Nat) ∧ b.2.2 < (1000000 : Int)) ∧ ∃ (b_1 : List Int × Nat × Int), ((cnRs (typ (0 : Int) eU b.1) = cnRs (typ (0 : Int) eU b_1.1) ∧ (↑(wrtsD b.1 b.2.1 b.2.2).2 : Int) = (↑b_1.2.1 : Int)) ∧ (0 : Int) = b_1.2.2) ∧ (rdB b_1.1 b_1.2.1 (80 : Nat) ∧ b_1.2.2 < (1000000 : Int)) ∧ ((wrtsD b.1 b.2.1 b.2.2).1.length + (wrtsD b_1.1 b_1.2.1 b_1.2.2).1.length) * (48 : Nat) ≤ (140737488355328 : Nat) ∧ ∃ (b_2 : Sto × List Wrt), (cnRs (frozenRs nilR) = cnRs (typ dItem eItemS b_2.1) ∧ cnRs (frozenRs (appR (typ dWrt eWrtO (wrtsD b.1 b.2.1 b.2.2).1) (typ dWrt eWrtO (wrtsD b_1.1 b_1.2.1 b_1.2.2).1))) = cnRs (typ dWrt eWrtS b_2.2)) ∧ b_2.2.length ≤ (1000 : Nat) ∧ (((∀ (k : Nat), True ∧ (∀ (k : Nat), True ∧ True) ∧ True) ∧ True) ∧ True) ∧ ∃ (b : List Int × Nat × Int), ((cnRs (typ (0 : Int) eU b_1.1) = cnRs (typ (0 : Int) eU b.1) ∧ (↑(wrtsD b_1.1 b_1.2.1 b_1.2.2).2 : Int) = (↑b.2.1 : Int)) ∧ n = b.2.2) ∧ (rdB b.1 b.2.1 (1 : Nat) ∧ b.2.2 < (1000000 : Int)) ∧ ((oddB b.1 b.2.1 b.2.2).1 = true → ∃ (b_3 : List Int × Nat × Int), ((cnRs (typ (0 : Int) eU b.1) = cnRs (typ (0 : Int) eU b_3.1) ∧ (↑(oddB b.1 b.2.1 b.2.2).2 : Int) = (↑b_3.2.1 : Int)) ∧ (3 : Int) = b_3.2.2) ∧ rdB b_3.1 b_3.2.1 (1 : Nat) ∧ ((pickB b_3.1 b_3.2.1 b_3.2.2 == (0 : Int)) = true → (List.length (doS b_2.1 b_2.2) + (1 : Nat)) * (40 : Nat) ≤ (140737488355328 : Nat) ∧ cnRs (appR (typ dItem eItemO (doS b_2.1 b_2.2)) (raw [[CV.s (ByteArray.mk #[(97 : UInt8), (48 : UInt8)]), CV.ow (3 : Nat) (typ (0 : Int) (fun (y : Int) => [CV.n IntKind.i64 y]) [(1 : Int)])]])) = cnRs (typ dItem eItemO (stoD l p n).1) ∧ cnRs (typ (0 : Int) eU b_3.1) = cnRs (typ (0 : Int) eU l) ∧ (↑(b_3.2.1 + (1 : Nat)) : Int) = (↑(stoD l p n).2 : Int)) ∧ ((pickB b_3.1 b_3.2.1 b_3.2.2 == (0 : Int)) = false → ((pickB b_3.1 b_3.2.1 b_3.2.2 == (1 : Int)) = true → ∃ (b : List Int × Nat × Int), ((cnRs (typ (0 : Int) eU b_3.1) = cnRs (typ (0 : Int) eU b.1) ∧ (↑(b_3.2.1 + (1 : Nat)) : Int) = (↑b.2.1 : Int)) ∧ (1 : Int) = b.2.2) ∧ (rdB b.1 b.2.1 (6 : Nat) ∧ b.2.2 < (1000000 : Int)) ∧ (List.length (doS b_2.1 b_2.2) + (1 : Nat)) * (40 : Nat) ≤ (140737488355328 : Nat) ∧ cnRs (appR (typ dItem eItemO (doS b_2.1 b_2.2)) (raw [[CV.s (ByteArray.mk #[(122 : UInt8), (57 : UInt8)]), CV.ow (3 : Nat) (typ (0 : Int) eI (valD b.1 b.2.1 b.2.2).1)]])) = cnRs (typ dItem eItemO (stoD l p n).1) ∧ cnRs (typ (0 : Int) eU b.1) = cnRs (typ (0 : Int) eU l) ∧ (↑(valD b.1 b.2.1 b.2.2).2 : Int) = (↑(stoD l p n).2 : Int)) ∧ ((pickB b_3.1 b_3.2.1 b_3.2.2 == (1 : Int)) = false → ∃ (pre : List Int × Nat × List Item → Prop), ∃ (μ : List Int × Nat × List Item → Nat), ∃ (x0 : List Int × Nat × List Item), ((cnRs (typ (0 : Int) eU b_3.1) = cnRs (typ (0 : Int) eU x0.1) ∧ (↑(b_3.2.1 + (1 : Nat)) : Int) = (↑x0.2.1 : Int)) ∧ cnRs nilR = cnRs nilR ∧ cnRs (typ dItem eItemO (doS b_2.1 b_2.2)) = cnRs (typ dItem eItemO x0.2.2)) ∧ pre x0 ∧ ∀ (x : List Int × Nat × List Item), pre x → (decide ((↑x.2.2.length : Int) ≤ (40 : Int)) = true → (x.2.2.length + (1 : Nat)) * (40 : Nat) ≤ (140737488355328 : Nat) ∧ ∃ (y : List Int × Nat × List Item), ((cnRs (typ (0 : Int) eU x.1) = cnRs (typ (0 : Int) eU y.1) ∧ (↑x.2.1 : Int) = (↑y.2.1 : Int)) ∧ cnRs nilR = cnRs nilR ∧ cnRs (appR (typ dItem eItemO x.2.2) (raw [[CV.s (ByteArray.mk #[(122 : UInt8), (57 : UInt8)]), CV.ow (3 : Nat) (typ (0 : Int) (fun (y : Int) => [CV.n IntKind.i64 y]) [(1 : Int)])]])) = cnRs (typ dItem eItemO y.2.2)) ∧ pre y ∧ μ y < μ x) ∧ (decide ((↑x.2.2.length : Int) ≤ (40 : Int)) = false → cnRs (typ dItem eItemO x.2.2) = cnRs (typ dItem eItemO (stoD l p n).1) ∧ cnRs (typ (0 : Int) eU x.1) = cnRs (typ (0 : Int) eU l) ∧ (↑x.2.1 : Int) = (↑(stoD l p n).2 : Int))))) ∧ ((oddB b.1 b.2.1 b.2.2).1 = false → cnRs (typ dItem eItemO (doS b_2.1 b_2.2)) = cnRs (typ dItem eItemO (stoD l p n).1) ∧ cnRs (typ (0 : Int) eU b.1) = cnRs (typ (0 : Int) eU l) ∧ (↑(oddB b.1 b.2.1 b.2.2).2 : Int) = (↑(stoD l p n).2 : Int))) = _ by kernel_rfl) ?_
  have hp := hpre.1
  have w1 := wrts_le (l := l) (p := p) 0 (rdB_le hp (by omega))
  have w2 := wrts_le (l := l) (p := (wrtsD l p 0).2) 0 (rdB_le hp (by omega))
  have hsm : (doS [] ((wrtsD l p 0).1 ++ (wrtsD l (wrtsD l p 0).2 0).1)).length ≤ 1000 := (doS_small [] _).1
  have hod := odd_le l (wrtsD l (wrtsD l p 0).2 0).2 n
  have hv : stoD l p n = if (oddB l (wrtsD l (wrtsD l p 0).2 0).2 n).1 = true then
    (if pickB l (oddB l (wrtsD l (wrtsD l p 0).2 0).2 n).2 3 = 0 then (doS [] ((wrtsD l p 0).1 ++ (wrtsD l (wrtsD l p 0).2 0).1) ++ [⟨⟨#[97, 48]⟩, [1]⟩], (oddB l (wrtsD l (wrtsD l p 0).2 0).2 n).2 + 1)
    else if pickB l (oddB l (wrtsD l (wrtsD l p 0).2 0).2 n).2 3 = 1 then (doS [] ((wrtsD l p 0).1 ++ (wrtsD l (wrtsD l p 0).2 0).1) ++ [⟨⟨#[122, 57]⟩, (valD l ((oddB l (wrtsD l (wrtsD l p 0).2 0).2 n).2 + 1) 1).1⟩], (valD l ((oddB l (wrtsD l (wrtsD l p 0).2 0).2 n).2 + 1) 1).2)
    else (doS [] ((wrtsD l p 0).1 ++ (wrtsD l (wrtsD l p 0).2 0).1) ++ List.replicate (41 - (doS [] ((wrtsD l p 0).1 ++ (wrtsD l (wrtsD l p 0).2 0).1)).length) ⟨⟨#[122, 57]⟩, [1]⟩, (oddB l (wrtsD l (wrtsD l p 0).2 0).2 n).2 + 1))
  else (doS [] ((wrtsD l p 0).1 ++ (wrtsD l (wrtsD l p 0).2 0).1), (oddB l (wrtsD l (wrtsD l p 0).2 0).2 n).2) := rfl
  have r1 : rdB l p 80 := rdB_le hp (by omega)
  have r2 : rdB l (wrtsD l p 0).2 80 := rdB_le hp (by omega)
  have r3 : rdB l (wrtsD l (wrtsD l p 0).2 0).2 10 := rdB_le hp (by omega)
  simp only [cU, eU_iff, Prod.exists, Int.natCast_inj, and_assoc, exists_eq_left', exists_and_left, true_and, and_true, implies_true, and_self, bne_iff_ne, beq_iff_eq, beq_eq_false_iff_ne, ne_eq, forall_eq, Prod.forall, fi_eI, fi_eS, cI, nI_iff, cI_app, cItemO, cItemS, nItemO_iff, nItemS_iff, cWrtO, cWrtS, nWrtO_iff, nWrtS_iff, cStoO, cStoS, nStoO_iff, nStoS_iff, fItemO, fItemS, fWrtO, fWrtS, fStoO, fStoS, fI, frz_app, cWrtO_app, cWrtS_app, cWrtO_1, cItemO_1, opr_ex, zcast, cnRs_raw, cnRs_nil, frz_nil, nil_map, List.map_nil, Int.toNat_natCast, Bool.not_eq_true, Bool.not_eq_false, decide_eq_true_eq, decide_eq_false_iff_not, gt_iff_lt]
  simp only [List.length_append]
  refine ⟨r1, by omega, r2, by omega, by omega, by omega, rdB_le r3 (by omega), hpre.2, fun ho => ?_, fun ho => by simp [hv, ho]⟩
  rw [hv]
  simp only [ho, if_true]
  clear hv
  generalize doS [] ((wrtsD l p 0).1 ++ (wrtsD l (wrtsD l p 0).2 0).1) = d at *
  generalize (wrtsD l (wrtsD l p 0).2 0).2 = p2 at *
  refine ⟨rdB_le r3 (by omega), fun h0 => ⟨by omega, by simp [h0]⟩, fun h0 => ⟨fun h1 => ⟨rdB_le r3 (by omega), by omega, by omega, by simp [h1]⟩, fun h1 => ?_⟩⟩
  simp only [h0, h1, if_false]
  refine ⟨fun x => x.1 = l ∧ x.2.1 = (oddB l p2 n).2 + 1 ∧ x.2.2.length ≤ 1000 ∧ x.2.2 ++ List.replicate (41 - x.2.2.length) ⟨⟨#[122, 57]⟩, [1]⟩ = d ++ List.replicate (41 - d.length) ⟨⟨#[122, 57]⟩, [1]⟩, ⟨rfl, rfl, hsm, rfl⟩, fun x => 41 - x.2.2.length, fun a q b hx => ?_⟩
  obtain ⟨rfl, e1, e2, e3⟩ := hx
  simp only at e1 e2 e3
  refine ⟨fun hk => ⟨by omega, ⟨rfl, e1, ?_, ?_⟩, ?_⟩, fun hk => ?_⟩
  · simp only [List.length_append, List.length_singleton]; omega
  · simp only [List.length_append, List.length_singleton]
    rw [← e3, show 41 - b.length = (41 - (b.length + 1)) + 1 by omega, List.replicate_succ]
    simp
  · simp only [List.length_append, List.length_singleton]; omega
  · rw [show 41 - b.length = 0 by omega] at e3
    simp at e3
    exact ⟨by simp [e3], rfl, e1⟩
def spec_l20Sto_c : Con Tryz.prog := ⟨38, 2, [.ptr, .lend], [0], List Int × Nat × Int, some fun b => rdB b.1 b.2.1 170 ∧ b.2.2 < 1000000, fun b => [(0, kRd b.1 b.2.1), (1, kI b.2.2)], fun b => [(2, ⟨.agg, [.c (oItems (stoD b.1 b.2.1 b.2.2).1)], []⟩), (0, kRd b.1 (stoD b.1 b.2.1 b.2.2).2)], [], fun b h => spec_l20Sto_ok (b.1) (b.2.1) (b.2.2) h⟩
theorem sto_le {l : List Int} {p : Nat} (n : Int) (h : rdB l p 170) : (stoD l p n).2 ≤ p + 168 := by
  have w1 := wrts_le (l := l) (p := p) 0 (rdB_le h (by omega))
  have w2 := wrts_le (l := l) (p := (wrtsD l p 0).2) 0 (rdB_le h (by omega))
  have hod := odd_le l (wrtsD l (wrtsD l p 0).2 0).2 n
  have hv := val_le (l := l) (p := (oddB l (wrtsD l (wrtsD l p 0).2 0).2 n).2 + 1) 1 (rdB_le h (by omega))
  simp only [stoD]
  split
  · split
    · simp only; omega
    · split <;> simp only <;> omega
  · simp only; omega
theorem op_le {l : List Int} {p : Nat} (n : Int) (h : rdB l p 8) : (opB l p n).2 ≤ p + 8 := by
  have hq : (op0 l p).2 ≤ p + 5 := by simp only [op0]; split <;> (try split) <;> (try split) <;> simp <;> omega
  have := odd_le l (op0 l p).2 n
  simp only [opB]
  split
  · simp only [opBent]; repeat' split
    all_goals simp only; omega
  · simp only; omega
theorem l4L_len {l : List Sto} (hl : l.length = 3) (tx : Int) (o : Opr) : ∀ (ps : List Int) (out : List Sto), out.length = 3 → (l4L l tx o ps out).1.length = 3
  | [], out, h => h
  | p :: ps, out, h => by
    simp only [l4L]
    split
    · exact l4L_len hl tx o ps _ (by simp [h])
    · exact hl
theorem glo_len {l : List Sto} {tx : Int} {o : Opr} (h : (gloD l tx o).2 = true) : (gloD l tx o).1.length = 3 := by
  unfold gloD at h ⊢
  split
  · rename_i hg
    simp only [Bool.and_eq_true] at hg
    have := (glo_at hg.1.1).1
    exact l4L_len this tx o _ _ this
  · rename_i hg; rw [if_neg hg] at h; cases h
def gloR (l : List Int) : Nat → List Sto → Nat → List Sto × Nat
  | 0, s, p => (s, p)
  | k + 1, s, p => gloR l k (if (gloD s ((k : Int) + 1) (opB l p 0).1).2 = true then (gloD s ((k : Int) + 1) (opB l p 0).1).1 else s) (opB l p 0).2
def gloI (l : List Int) (p : Nat) : List Sto × Nat := gloR l (pickB l p 14).toNat [[], [], []] (p + 1)
theorem spec_l20Glo_ok (l : List Int) (p : Nat) (hpre : rdB l p 120) : FunOK Tryz.prog 36 1 [0] [(0, kRd l p)] (· = [(1, k1 (oStos (gloI l p).1)), (0, kRd l (gloI l p).2)]) := by
  refine fun_to (E := ⟨tab, ctOf [spec_GloDo_c, spec_rd_pick_c, spec_l20Op_c, spec_GloNew_c], 25, [0], [(0, [0, 5, 14, 19, 20, 23]), (1, [0, 3, 5, 7, 14, 19, 20, 23]), (2, [0, 3, 4, 5, 7, 14, 19, 20, 23]), (3, [0, 3, 4, 5, 7, 11, 14, 19, 20, 23]), (4, [0, 3, 4, 5, 7, 14, 19, 20, 23]), (5, [0, 3, 4, 5, 6, 7, 14, 19, 20, 23]), (6, [0, 3, 4, 5, 7, 14, 19, 20, 22, 23]), (7, [0, 3, 4, 5, 7, 14, 19, 20, 23]), (8, [0, 2, 3, 5, 7, 14, 19, 20, 23, 24])], [(0, ⟨List Int × Nat × List Sto × Int, fun x => [(0, ⟨.box, [.c (sU (x.1)), .c (.n IntKind.i64 (x.2.1 : Int))], []⟩), (3, ⟨.one, [.c (oStos (x.2.2.1))], []⟩), (4, ⟨.one, [.c (.n IntKind.i64 (x.2.2.2))], []⟩), (7, ⟨.one, [.c .any], []⟩)]⟩)], [(7, [(1000000, [])]), (8, [(1000000, [])])], [], []⟩) tab_ok mixed Tryz.func36 rfl Tryz.ntmps36 (rvs := [.tmp 2]) Tryz.results36 rfl fun hl => ?_
  refine cast (show (∃ (b : Unit), True ∧ ∃ (b : List Int × Nat × Int), ((cnRs (typ (0 : Int) eU l) = cnRs (typ (0 : Int) eU b.1) ∧ (↑p : Int) = (↑b.2.1 : Int)) ∧ (14 : Int) = b.2.2) ∧ rdB b.1 b.2.1 (1 : Nat) ∧ ∃ (pre : List Int × Nat × List Sto × Int → Prop), ∃ (μ : List Int × Nat × List Sto × Int → Nat), ∃ (x0 : List Int × Nat × List Sto × Int), ((cnRs (typ (0 : Int) eU b.1) = cnRs (typ (0 : Int) eU x0.1) ∧ (↑(b.2.1 + (1 : Nat)) : Int) = (↑x0.2.1 : Int)) ∧ cnRs (typ [] eStoO [[], [], []]) = cnRs (typ [] eStoO x0.2.2.1) ∧ pickB b.1 b.2.1 b.2.2 = x0.2.2.2 ∧ True) ∧ pre x0 ∧ ∀ (x : List Int × Nat × List Sto × Int), pre x → (decide (x.2.2.2 > (0 : Int)) = true → ∃ (b : List Int × Nat × Int), ((cnRs (typ (0 : Int) eU x.1) = cnRs (typ (0 : Int) eU b.1) ∧ (↑x.2.1 : Int) = (↑b.2.1 : Int)) ∧ (0 : Int) = b.2.2) ∧ (rdB b.1 b.2.1 (8 : Nat) ∧ b.2.2 < (1000000 : Int)) ∧ ∃ (b_1 : List Sto × Int × Opr), (cnRs (frozenRs (typ [] eStoO x.2.2.1)) = cnRs (typ [] eStoS b_1.1) ∧ x.2.2.2 = b_1.2.1 ∧ (opB b.1 b.2.1 b.2.2).1.kind = b_1.2.2.kind ∧ (opB b.1 b.2.1 b.2.2).1.who = b_1.2.2.who ∧ (opB b.1 b.2.1 b.2.2).1.inn = b_1.2.2.inn ∧ (opB b.1 b.2.1 b.2.2).1.code = b_1.2.2.code ∧ (opB b.1 b.2.1 b.2.2).1.sec = b_1.2.2.sec ∧ (opB b.1 b.2.1 b.2.2).1.fam = b_1.2.2.fam ∧ (opB b.1 b.2.1 b.2.2).1.gen = b_1.2.2.gen) ∧ b_1.1.length ≤ (100 : Nat) ∧ (((∀ (k : Nat), (∀ (k : Nat), True ∧ (∀ (k : Nat), True ∧ True) ∧ True) ∧ True) ∧ True ∧ True) ∧ True) ∧ ((gloD b_1.1 b_1.2.1 b_1.2.2).2 = true → ∃ (y : List Int × Nat × List Sto × Int), ((cnRs (typ (0 : Int) eU b.1) = cnRs (typ (0 : Int) eU y.1) ∧ (↑(opB b.1 b.2.1 b.2.2).2 : Int) = (↑y.2.1 : Int)) ∧ cnRs (typ [] eStoO (gloD b_1.1 b_1.2.1 b_1.2.2).1) = cnRs (typ [] eStoO y.2.2.1) ∧ IntKind.i64.wrap (x.2.2.2 - (1 : Int)) = y.2.2.2 ∧ True) ∧ pre y ∧ μ y < μ x) ∧ ((gloD b_1.1 b_1.2.1 b_1.2.2).2 = false → ∃ (y : List Int × Nat × List Sto × Int), ((cnRs (typ (0 : Int) eU b.1) = cnRs (typ (0 : Int) eU y.1) ∧ (↑(opB b.1 b.2.1 b.2.2).2 : Int) = (↑y.2.1 : Int)) ∧ cnRs (typ [] eStoO x.2.2.1) = cnRs (typ [] eStoO y.2.2.1) ∧ IntKind.i64.wrap (x.2.2.2 - (1 : Int)) = y.2.2.2 ∧ True) ∧ pre y ∧ μ y < μ x)) ∧ (decide (x.2.2.2 > (0 : Int)) = false → cnRs (typ [] eStoO x.2.2.1) = cnRs (typ [] eStoO (gloI l p).1) ∧ cnRs (typ (0 : Int) eU x.1) = cnRs (typ (0 : Int) eU l) ∧ (↑x.2.1 : Int) = (↑(gloI l p).2 : Int))) = _ by kernel_rfl) ?_
  have hp := hpre
  have b1 := pick_lt (p := p) (n := 14) (rdB_le hp (by omega) : rdB l p 1) (by omega)
  simp only [cU, eU_iff, Prod.exists, Int.natCast_inj, and_assoc, exists_eq_left', exists_and_left, true_and, and_true, implies_true, and_self, bne_iff_ne, beq_iff_eq, beq_eq_false_iff_ne, ne_eq, forall_eq, Prod.forall, fi_eI, fi_eS, cI, nI_iff, cI_app, cItemO, cItemS, nItemO_iff, nItemS_iff, cWrtO, cWrtS, nWrtO_iff, nWrtS_iff, cStoO, cStoS, nStoO_iff, nStoS_iff, fItemO, fItemS, fWrtO, fWrtS, fStoO, fStoS, fI, frz_app, cWrtO_app, cWrtS_app, cWrtO_1, cItemO_1, opr_ex, zcast, cnRs_raw, cnRs_nil, frz_nil, nil_map, List.map_nil, Int.toNat_natCast, Bool.not_eq_true, Bool.not_eq_false, decide_eq_true_eq, decide_eq_false_iff_not, gt_iff_lt]
  refine ⟨rdB_le hp (by omega), (), fun x => x.1 = l ∧ 0 ≤ x.2.2.2 ∧ x.2.2.2 < 14 ∧ gloR l x.2.2.2.toNat x.2.2.1 x.2.1 = gloR l (pickB l p 14).toNat [[], [], []] (p + 1) ∧ (x.2.1 : Int) + 8 * x.2.2.2 ≤ p + 112 ∧ x.2.2.1.length = 3, ⟨rfl, b1.1, b1.2, rfl, by simp only; omega, rfl⟩, fun x => x.2.2.2.toNat, fun a q xs k hx => ?_⟩
  obtain ⟨rfl, h1, h0, h2, h3, h4⟩ := hx
  simp only at h1 h2 h3 h4 h0
  refine ⟨fun hk => ?_, fun hk => ?_⟩
  · have e : IntKind.i64.wrap (k - 1) = k - 1 := IntWalk.i64_in _ (by omega)
    simp only [e]
    obtain ⟨m, rfl⟩ : ∃ m : Nat, k = (m : Int) + 1 := ⟨(k - 1).toNat, by omega⟩
    have e2 : ((m : Int) + 1).toNat = m + 1 := by omega
    have e3 : ((m : Int) + 1 - 1).toNat = m := by omega
    rw [e2, gloR] at h2
    have hw := op_le (l := a) (p := q) 0 (rdB_le hp (by omega))
    simp only [e3, e2]
    refine ⟨rdB_le hp (by omega), by omega, by omega, fun ho => ⟨⟨trivial, by omega, by omega, ?_, by omega, ?_⟩, by omega⟩, fun ho => ⟨⟨trivial, by omega, by omega, ?_, by omega, h4⟩, by omega⟩⟩
    · rw [if_pos ho] at h2; exact h2
    · exact glo_len ho
    · rw [if_neg (by simp [ho])] at h2; exact h2
  · obtain rfl : k = 0 := by omega
    simp only [Int.toNat_zero, gloR] at h2
    simp only [gloI, ← h2, and_self]
def spec_l20Glo_c : Con Tryz.prog := ⟨36, 1, [.ptr], [0], List Int × Nat, some fun b => rdB b.1 b.2 120, fun b => [(0, kRd b.1 b.2)], fun b => [(1, k1 (oStos (gloI b.1 b.2).1)), (0, kRd b.1 (gloI b.1 b.2).2)], [], fun b h => spec_l20Glo_ok (b.1) (b.2) h⟩
theorem gloR_le {l : List Int} : ∀ (k : Nat) (s : List Sto) (p : Nat), rdB l p (8 * k) → s.length = 3 → (gloR l k s p).2 ≤ p + 8 * k ∧ (gloR l k s p).1.length = 3
  | 0, s, p, _, h => ⟨by simp [gloR], h⟩
  | k + 1, s, p, hr, h => by
    have h1 := op_le (l := l) (p := p) 0 (rdB_le hr (by omega))
    rw [gloR]
    have h2 := gloR_le k (if (gloD s ((k : Int) + 1) (opB l p 0).1).2 = true then (gloD s ((k : Int) + 1) (opB l p 0).1).1 else s) (opB l p 0).2 (rdB_le hr (by omega)) (by
      split
      · rename_i ho; exact glo_len ho
      · exact h)
    exact ⟨by omega, h2.2⟩
theorem gloI_le {l : List Int} {p : Nat} (h : rdB l p 120) : (gloI l p).2 ≤ p + 112 ∧ (gloI l p).1.length = 3 := by
  have b1 := pick_lt (p := p) (n := 14) (rdB_le h (by omega) : rdB l p 1) (by omega)
  have h1 := gloR_le (l := l) (pickB l p 14).toNat [[], [], []] (p + 1) (rdB_le h (by omega)) rfl
  exact ⟨by simp only [gloI]; omega, h1.2⟩
def drawGlo1 (l : List Int) : List Sto × Int × Opr :=
  let g := gloI l 0
  let q := oddB l g.2 16
  let h := if q.1 = true then (g.1.set (pickB l q.2 3).toNat (stoD l (q.2 + 1) 3).1, (stoD l (q.2 + 1) 3).2) else (g.1, q.2)
  (h.1, [15 + pickB l h.2 14, pickB l (h.2 + 1) 10, -1].getD (([0, 0, 0, 0, 1, 2] : List Int).getD (pickB l (h.2 + 2) 6).toNat 0).toNat 0, (opB l (h.2 + 3) 12).1)
def drawGlo (code : List Int) : List Sto × Int × Opr := drawGlo1 (code.take 2000)
theorem spec_DrawGloDo_ok (l : List Int) (hpre : okU l) : FunOK Tryz.prog 10 1 [] [(0, k1 (sU l))] (· = [(1, ⟨.tup [(false, 1), (false, 1), (true, 7)], .c (oStos (drawGlo l).1) :: .c (.n .i64 (drawGlo l).2.1) :: cOp (drawGlo l).2.2, []⟩)]) := by
  refine fun_to (E := ⟨tab, ctOf [spec_l20Open_c, spec_l20Glo_c, spec_rd_odd_c, spec_l20Sto_c, spec_rd_pick_c, spec_l20Op_c], 35, [], [(0, [0, 4]), (1, [4, 5, 8]), (2, [4, 5, 6, 8, 10]), (3, [4, 5, 6, 8, 10, 12]), (4, [4, 5, 6, 8, 10]), (5, [2, 3, 4, 6, 10, 19])], [], [(5, [(1000000, [])])], [], []⟩) tab_ok mixed Tryz.func10 rfl Tryz.ntmps10 (rvs := [.tmp 2, .tmp 3, .cell 4 25]) Tryz.results10 rfl fun hl => ?_
  refine cast (show (∃ (b : List Int), cnRs (typ (0 : Int) eU l) = cnRs (typ (0 : Int) eU b) ∧ ∃ (b_1 : List Int × Nat), (cnRs (typ (0 : Int) eU (List.take (2000 : Nat) b)) = cnRs (typ (0 : Int) eU b_1.1) ∧ (↑(0 : Nat) : Int) = (↑b_1.2 : Int)) ∧ rdB b_1.1 b_1.2 (120 : Nat) ∧ ∃ (b : List Int × Nat × Int), ((cnRs (typ (0 : Int) eU b_1.1) = cnRs (typ (0 : Int) eU b.1) ∧ (↑(gloI b_1.1 b_1.2).2 : Int) = (↑b.2.1 : Int)) ∧ (16 : Int) = b.2.2) ∧ (rdB b.1 b.2.1 (1 : Nat) ∧ b.2.2 < (1000000 : Int)) ∧ ((oddB b.1 b.2.1 b.2.2).1 = true → ∃ (b_2 : List Int × Nat × Int), ((cnRs (typ (0 : Int) eU b.1) = cnRs (typ (0 : Int) eU b_2.1) ∧ (↑(oddB b.1 b.2.1 b.2.2).2 : Int) = (↑b_2.2.1 : Int)) ∧ (3 : Int) = b_2.2.2) ∧ rdB b_2.1 b_2.2.1 (1 : Nat) ∧ ∃ (b : List Int × Nat × Int), ((cnRs (typ (0 : Int) eU b_2.1) = cnRs (typ (0 : Int) eU b.1) ∧ (↑(b_2.2.1 + (1 : Nat)) : Int) = (↑b.2.1 : Int)) ∧ (3 : Int) = b.2.2) ∧ (rdB b.1 b.2.1 (170 : Nat) ∧ b.2.2 < (1000000 : Int)) ∧ ((0 : Int) ≤ pickB b_2.1 b_2.2.1 b_2.2.2 ∧ pickB b_2.1 b_2.2.1 b_2.2.2 < (↑(gloI b_1.1 b_1.2).1.length : Int)) ∧ (pickB b_2.1 b_2.2.1 b_2.2.2).toNat < (gloI b_1.1 b_1.2).1.length ∧ ∃ (b_3 : List Int × Nat × Int), ((cnRs (typ (0 : Int) eU b.1) = cnRs (typ (0 : Int) eU b_3.1) ∧ (↑(stoD b.1 b.2.1 b.2.2).2 : Int) = (↑b_3.2.1 : Int)) ∧ (14 : Int) = b_3.2.2) ∧ rdB b_3.1 b_3.2.1 (1 : Nat) ∧ ∃ (b_4 : List Int × Nat × Int), ((cnRs (typ (0 : Int) eU b_3.1) = cnRs (typ (0 : Int) eU b_4.1) ∧ (↑(b_3.2.1 + (1 : Nat)) : Int) = (↑b_4.2.1 : Int)) ∧ (10 : Int) = b_4.2.2) ∧ rdB b_4.1 b_4.2.1 (1 : Nat) ∧ ∃ (b_5 : List Int × Nat × Int), ((cnRs (typ (0 : Int) eU b_4.1) = cnRs (typ (0 : Int) eU b_5.1) ∧ (↑(b_4.2.1 + (1 : Nat)) : Int) = (↑b_5.2.1 : Int)) ∧ (6 : Int) = b_5.2.2) ∧ rdB b_5.1 b_5.2.1 (1 : Nat) ∧ ((0 : Int) ≤ pickB b_5.1 b_5.2.1 b_5.2.2 ∧ pickB b_5.1 b_5.2.1 b_5.2.2 < (↑(6 : Nat) : Int)) ∧ (pickB b_5.1 b_5.2.1 b_5.2.2).toNat < (6 : Nat) ∧ ((0 : Int) ≤ [(0 : Int), (0 : Int), (0 : Int), (0 : Int), (1 : Int), (2 : Int)].getD (pickB b_5.1 b_5.2.1 b_5.2.2).toNat (0 : Int) ∧ [(0 : Int), (0 : Int), (0 : Int), (0 : Int), (1 : Int), (2 : Int)].getD (pickB b_5.1 b_5.2.1 b_5.2.2).toNat (0 : Int) < (↑(3 : Nat) : Int)) ∧ ([(0 : Int), (0 : Int), (0 : Int), (0 : Int), (1 : Int), (2 : Int)].getD (pickB b_5.1 b_5.2.1 b_5.2.2).toNat (0 : Int)).toNat < (3 : Nat) ∧ ∃ (b_6 : List Int × Nat × Int), ((cnRs (typ (0 : Int) eU b_5.1) = cnRs (typ (0 : Int) eU b_6.1) ∧ (↑(b_5.2.1 + (1 : Nat)) : Int) = (↑b_6.2.1 : Int)) ∧ (12 : Int) = b_6.2.2) ∧ (rdB b_6.1 b_6.2.1 (8 : Nat) ∧ b_6.2.2 < (1000000 : Int)) ∧ cnRs (setF (typ [] eStoO (gloI b_1.1 b_1.2).1) (pickB b_2.1 b_2.2.1 b_2.2.2).toNat (0 : Nat) (CV.ow (75 : Nat) (typ dItem eItemO (stoD b.1 b.2.1 b.2.2).1))) = cnRs (typ [] eStoO (drawGlo l).1) ∧ [IntKind.i64.wrap ((15 : Int) + pickB b_3.1 b_3.2.1 b_3.2.2), pickB b_4.1 b_4.2.1 b_4.2.2, (-1 : Int)].getD ([(0 : Int), (0 : Int), (0 : Int), (0 : Int), (1 : Int), (2 : Int)].getD (pickB b_5.1 b_5.2.1 b_5.2.2).toNat (0 : Int)).toNat (0 : Int) = (drawGlo l).2.1 ∧ (opB b_6.1 b_6.2.1 b_6.2.2).1.kind = (drawGlo l).2.2.kind ∧ (opB b_6.1 b_6.2.1 b_6.2.2).1.who = (drawGlo l).2.2.who ∧ (opB b_6.1 b_6.2.1 b_6.2.2).1.inn = (drawGlo l).2.2.inn ∧ (opB b_6.1 b_6.2.1 b_6.2.2).1.code = (drawGlo l).2.2.code ∧ (opB b_6.1 b_6.2.1 b_6.2.2).1.sec = (drawGlo l).2.2.sec ∧ (opB b_6.1 b_6.2.1 b_6.2.2).1.fam = (drawGlo l).2.2.fam ∧ (opB b_6.1 b_6.2.1 b_6.2.2).1.gen = (drawGlo l).2.2.gen) ∧ ((oddB b.1 b.2.1 b.2.2).1 = false → ∃ (b_2 : List Int × Nat × Int), ((cnRs (typ (0 : Int) eU b.1) = cnRs (typ (0 : Int) eU b_2.1) ∧ (↑(oddB b.1 b.2.1 b.2.2).2 : Int) = (↑b_2.2.1 : Int)) ∧ (14 : Int) = b_2.2.2) ∧ rdB b_2.1 b_2.2.1 (1 : Nat) ∧ ∃ (b : List Int × Nat × Int), ((cnRs (typ (0 : Int) eU b_2.1) = cnRs (typ (0 : Int) eU b.1) ∧ (↑(b_2.2.1 + (1 : Nat)) : Int) = (↑b.2.1 : Int)) ∧ (10 : Int) = b.2.2) ∧ rdB b.1 b.2.1 (1 : Nat) ∧ ∃ (b_3 : List Int × Nat × Int), ((cnRs (typ (0 : Int) eU b.1) = cnRs (typ (0 : Int) eU b_3.1) ∧ (↑(b.2.1 + (1 : Nat)) : Int) = (↑b_3.2.1 : Int)) ∧ (6 : Int) = b_3.2.2) ∧ rdB b_3.1 b_3.2.1 (1 : Nat) ∧ ((0 : Int) ≤ pickB b_3.1 b_3.2.1 b_3.2.2 ∧ pickB b_3.1 b_3.2.1 b_3.2.2 < (↑(6 : Nat) : Int)) ∧ (pickB b_3.1 b_3.2.1 b_3.2.2).toNat < (6 : Nat) ∧ ((0 : Int) ≤ [(0 : Int), (0 : Int), (0 : Int), (0 : Int), (1 : Int), (2 : Int)].getD (pickB b_3.1 b_3.2.1 b_3.2.2).toNat (0 : Int) ∧ [(0 : Int), (0 : Int), (0 : Int), (0 : Int), (1 : Int), (2 : Int)].getD (pickB b_3.1 b_3.2.1 b_3.2.2).toNat (0 : Int) < (↑(3 : Nat) : Int)) ∧ ([(0 : Int), (0 : Int), (0 : Int), (0 : Int), (1 : Int), (2 : Int)].getD (pickB b_3.1 b_3.2.1 b_3.2.2).toNat (0 : Int)).toNat < (3 : Nat) ∧ ∃ (b_4 : List Int × Nat × Int), ((cnRs (typ (0 : Int) eU b_3.1) = cnRs (typ (0 : Int) eU b_4.1) ∧ (↑(b_3.2.1 + (1 : Nat)) : Int) = (↑b_4.2.1 : Int)) ∧ (12 : Int) = b_4.2.2) ∧ (rdB b_4.1 b_4.2.1 (8 : Nat) ∧ b_4.2.2 < (1000000 : Int)) ∧ cnRs (typ [] eStoO (gloI b_1.1 b_1.2).1) = cnRs (typ [] eStoO (drawGlo l).1) ∧ [IntKind.i64.wrap ((15 : Int) + pickB b_2.1 b_2.2.1 b_2.2.2), pickB b.1 b.2.1 b.2.2, (-1 : Int)].getD ([(0 : Int), (0 : Int), (0 : Int), (0 : Int), (1 : Int), (2 : Int)].getD (pickB b_3.1 b_3.2.1 b_3.2.2).toNat (0 : Int)).toNat (0 : Int) = (drawGlo l).2.1 ∧ (opB b_4.1 b_4.2.1 b_4.2.2).1.kind = (drawGlo l).2.2.kind ∧ (opB b_4.1 b_4.2.1 b_4.2.2).1.who = (drawGlo l).2.2.who ∧ (opB b_4.1 b_4.2.1 b_4.2.2).1.inn = (drawGlo l).2.2.inn ∧ (opB b_4.1 b_4.2.1 b_4.2.2).1.code = (drawGlo l).2.2.code ∧ (opB b_4.1 b_4.2.1 b_4.2.2).1.sec = (drawGlo l).2.2.sec ∧ (opB b_4.1 b_4.2.1 b_4.2.2).1.fam = (drawGlo l).2.2.fam ∧ (opB b_4.1 b_4.2.1 b_4.2.2).1.gen = (drawGlo l).2.2.gen)) = _ by kernel_rfl) ?_
  simp only [cU, eU_iff, Prod.exists, Int.natCast_inj, and_assoc, exists_eq_left', exists_and_left, true_and, and_true, implies_true, and_self, bne_iff_ne, beq_iff_eq, beq_eq_false_iff_ne, ne_eq, forall_eq, Prod.forall, fi_eI, fi_eS, cI, nI_iff, cI_app, cItemO, cItemS, nItemO_iff, nItemS_iff, cWrtO, cWrtS, nWrtO_iff, nWrtS_iff, cStoO, cStoS, nStoO_iff, nStoS_iff, fItemO, fItemS, fWrtO, fWrtS, fStoO, fStoS, fI, frz_app, cWrtO_app, cWrtS_app, cWrtO_1, cItemO_1, opr_ex, zcast, cnRs_raw, cnRs_nil, frz_nil, nil_map, List.map_nil, Int.toNat_natCast, Bool.not_eq_true, Bool.not_eq_false, decide_eq_true_eq, decide_eq_false_iff_not, gt_iff_lt]
  have hv : drawGlo l = drawGlo1 (l.take 2000) := rfl
  rw [hv]
  have hu : okU (l.take 2000) := fun x hx => hpre x (List.mem_of_mem_take hx)
  generalize l.take 2000 = t at *
  clear hv hl hpre
  have r0 : ∀ p k, p + k ≤ 1000000000 → rdB t p k := fun p k h => ⟨hu, h⟩
  obtain ⟨g1, g2⟩ := gloI_le (l := t) (p := 0) (r0 _ _ (by omega))
  have hq := odd_le t (gloI t 0).2 16
  have hs := sto_le (l := t) (p := (oddB t (gloI t 0).2 16).2 + 1) 3 (r0 _ _ (by omega))
  have k3 := pick_lt (n := 3) (r0 (oddB t (gloI t 0).2 16).2 1 (by omega)) (by omega)
  have T : ∀ p, p ≤ 1000 → (0 ≤ pickB t (p + 1 + 1) 6 ∧ pickB t (p + 1 + 1) 6 < 6) ∧ (0 ≤ ([0, 0, 0, 0, 1, 2] : List Int).getD (pickB t (p + 1 + 1) 6).toNat 0 ∧ ([0, 0, 0, 0, 1, 2] : List Int).getD (pickB t (p + 1 + 1) 6).toNat 0 < 3) ∧ IntKind.i64.wrap (15 + pickB t p 14) = 15 + pickB t p 14 := fun p hp => by
    have h14 := pick_lt (n := 14) (r0 p 1 (by omega)) (by omega)
    refine ⟨pick_lt (n := 6) (r0 (p + 1 + 1) 1 (by omega)) (by omega), ?_, IntWalk.i64_in _ (by omega)⟩
    exact getD_all (P := fun x : Int => 0 ≤ x ∧ x < 3) (by simp) (by simp) _
  simp only [drawGlo1]
  generalize oddB t (gloI t 0).2 16 = q at *
  generalize gloI t 0 = g at *
  generalize stoD t (q.2 + 1) 3 = st at *
  obtain ⟨a1, a2, a3⟩ := T q.2 (by omega)
  obtain ⟨c1, c2, c3⟩ := T st.2 (by omega)
  rw [a3, c3]
  refine ⟨r0 _ _ (by omega), r0 _ _ (by omega), by omega, fun ho => ?_, fun ho => ?_⟩
  all_goals simp only [ho, if_true, if_false, Bool.false_eq_true]
  all_goals repeat' (first | assumption | (with_reducible apply And.intro) | exact r0 _ _ (by omega) | exact True.intro | exact cStoSet _ _ _ | rfl | omega)
def spec_DrawGloDo_c : Con Tryz.prog := ⟨10, 1, [.lend], [], List Int, some fun b => okU b, fun b => [(0, k1 (sU b))], fun b => [(1, ⟨.tup [(false, 1), (false, 1), (true, 7)], .c (oStos (drawGlo b).1) :: .c (.n .i64 (drawGlo b).2.1) :: cOp (drawGlo b).2.2, []⟩)], [], fun b h => spec_DrawGloDo_ok b h⟩
end Go.Proofs.AI

namespace Go.Proofs.AI
open Go.RowKit Go.Proofs Go.ChangeShapes Go.WideShapes Go.ChangeAt
set_option linter.unusedVariables false
set_option linter.unusedSimpArgs false
theorem open_code {P : Program} {H : Type} {enc : TypeId × Value → H} {w : World} {base : Nat} {spare : Nat → Bool} {held : Bool} {r : Reach} {b0 : Nat} {t : TypeId} {v : Value} {d : DataW H} {p : List MemPlace}
    (ht : P.underlying t = some (.slice 5)) (h5 : P.underlying 5 = some (.int .u8)) (hc : P.cellsOf 5 = 1) (hval : Value.okWide P w r b0 t v) (h : DataW.Trod enc P w base spare held t v d p) :
    ∃ l, okU l ∧ Rep P w (fun b => b < w.heap.size) (sU l) v FP.none := by
  obtain ⟨A, n, c, rfl⟩ := okWide_slice ht hval
  obtain ⟨fuel, hf⟩ := h
  rcases open_ints ht h5 hc hf with ⟨hcs, hx⟩ | ⟨a, len, cap, zs, hcs, _, hl, hm, hz, hx, hcell, hwz⟩
  · simp [Value.cells] at hcs
    obtain ⟨rfl, rfl, rfl⟩ := hcs
    refine ⟨[], fun x hx => (by simp at hx), Rep.sh (es := typ 0 eU []) (fun _ _ => undef) (Nat.le_refl _) (by decide) (fun h => absurd h (by decide)) (fun k row h => ?_) (fun k row o x h _ => ?_)⟩
    · rw [typ_l] at h; simp at h
    · rw [typ_l] at h; simp at h
  · simp [Value.cells] at hcs
    obtain ⟨rfl, rfl, rfl⟩ := hcs
    have hzl : n ≤ zs.length := by
      rw [hz]; split <;> omega
    refine ⟨zs.take n, fun x hx => ?_, rep_ints (k := .u8) hc hl hm (by rw [List.length_take]; omega) (fun i hi => ?_)⟩
    · have := hwz x (List.mem_of_mem_take hx)
      simp only [Lit.wf, Bool.and_eq_true, decide_eq_true_eq] at this
      have h1 : (0 : Int) ≤ x ∧ x ≤ 255 := this
      omega
    · rw [hcell i (by omega)]
      simp [List.getD_eq_getElem?_getD, List.getElem?_take, hi]
end Go.Proofs.AI
