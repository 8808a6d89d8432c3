/- Go's library, as far as the program comes to it, told in data. Conditions: none. -/
import Derived.Test.YtcmjdjomidhdnaaGreatDoorGloC
import Derived.Test.YtcmjdjomidhdnaaGreatDoorAiE
import Derived.Shelf.Strings.SlTrimAscii
import Derived.Test.YtcmjdjomidhdnaaGreatDoorShelf
import Derived.KernelRfl
namespace Go.Proofs.AI
open Go.RowKit Go.Proofs
set_option linter.unusedVariables false
set_option linter.unusedSimpArgs false
set_option maxRecDepth 100000
theorem natS_dec (n : Nat) : natS n = ⟨(Lib.decDigits n).toArray⟩ := by
  induction n using Nat.strongRecOn with
  | _ n ih =>
    by_cases h : n < 10
    · rw [natS_lt h, Lib.decDigits_one h]; simp [digS]
    · rw [natS_ge h, ih (n / 10) (by omega)]
      conv => rhs; rw [Lib.decDigits, dif_neg h]
      simp only [digS]
      apply ByteArray.ext
      simp
      exact congrArg _ (by omega)
theorem itoa_ok (n : Int) (h : 0 ≤ n ∧ n < 100) : FunOK Tryz.prog 91 1 [] [(0, kI n)] (· = [(1, kS (natS n.toNat))]) := by
  obtain ⟨m, rfl⟩ : ∃ m : Nat, n = (m : Int) := ⟨n.toNat, by omega⟩
  refine FunOK.plain (ys := [.n .i64 (m : Int)]) (z := .s (natS (m : Int).toNat)) (fn := Tryz.f91) Tryz.func91 rfl rfl rfl rfl fun w => ?_
  refine (Tryz.strconv_Itoa_small m (by omega) w).mono fun e w' ⟨h1, h2⟩ => ⟨?_, h2 ▸ Below.refl _ _⟩
  rw [h1, Int.toNat_natCast, natS_dec]
def itoa_c : Con Tryz.prog := ⟨91, 1, [.lend], [], Int, some fun n => 0 ≤ n ∧ n < 100, fun n => [(0, kI n)], fun n => [(1, kS (natS n.toNat))], [], fun n h => itoa_ok n h⟩
def cmpB (a b : ByteArray) : Int := Lib.compareBytes a.data.toList b.data.toList
theorem cmp_ok (a b : ByteArray) : FunOK Tryz.prog 119 2 [] [(0, kS a), (1, kS b)] (· = [(2, kI (cmpB a b))]) := by
  refine FunOK.plain (ys := [.s a, .s b]) (z := .n .i64 (cmpB a b)) (fn := Tryz.f119) Tryz.func119 rfl rfl rfl rfl fun w => ?_
  exact (Tryz.strings_Compare a b w).mono fun e w' ⟨h1, h2⟩ => ⟨h1, h2 ▸ Below.refl _ _⟩
def cmp_c : Con Tryz.prog := ⟨119, 2, [.lend, .lend], [], ByteArray × ByteArray, none, fun b => [(0, kS b.1), (1, kS b.2)], fun b => [(2, kI (cmpB b.1 b.2))], [], fun b h => cmp_ok b.1 b.2⟩
def digits : ByteArray := ⟨#[48, 49, 50, 51, 52, 53, 54, 55, 56, 57]⟩
def trimD (s : ByteArray) : ByteArray := ⟨(Lib.trimS s.data.toList digits.data.toList).toArray⟩
theorem trim_ok (s : ByteArray) (h : s.size ≤ 1000) : FunOK Tryz.prog 103 2 [] [(0, kS s), (1, kS digits)] (· = [(2, kS (trimD s))]) := by
  refine FunOK.plain (ys := [.s s, .s digits]) (z := .s (trimD s)) (fn := Tryz.f103) Tryz.func103 rfl rfl rfl rfl fun w => ?_
  exact Any.strings_Trim_laid Tryz.lays160 (by kernel_rfl) s digits w (by omega) (by decide) (ascii_of_all (by decide))
def trim_c : Con Tryz.prog := ⟨103, 2, [.lend, .lend], [], ByteArray, some fun s => s.size ≤ 1000, fun s => [(0, kS s), (1, kS digits)], fun s => [(2, kS (trimD s))], [], fun s h => trim_ok s h⟩
theorem cmp_eq : ∀ (a b : List UInt8), Lib.compareBytes a b = if Op.bytesLess a b then -1 else if a == b then 0 else 1
  | [], [] => rfl
  | [], _ :: _ => rfl
  | _ :: _, [] => rfl
  | a :: x, b :: y => by
    simp only [Lib.compareBytes, Op.bytesLess]
    by_cases h1 : a < b
    · simp [h1]
    · by_cases h2 : b < a
      · have hne : a ≠ b := by rintro rfl; exact h1 h2
        simp [h1, h2, hne]
      · have he : a = b := UInt8.le_antisymm (by simpa using h2) (by simpa using h1)
        subst he
        simp [h1, cmp_eq x y]
theorem cmpB_eq (a b : ByteArray) : cmpB a b = if ltB a b then -1 else if eqB a b then 0 else 1 := by
  simp only [cmpB, cmp_eq, ltB, eqB, ByteArray.toList_eq]
theorem trim_nil (l cs : List UInt8) : Lib.trimS l cs = [] ↔ ∀ x ∈ l, cs.contains x = true := by
  have h1 : ∀ (p : UInt8 → Bool) (l : List UInt8), l.dropWhile p = [] ↔ ∀ x ∈ l, p x = true := fun p l => by
    induction l with
    | nil => simp
    | cons a l ih =>
      simp only [List.dropWhile_cons]
      split
      · rename_i h; simp [ih, h]
      · rename_i h; simp [h]
  simp only [Lib.trimS, Lib.trimLeftS, Lib.trimRightS]
  rw [h1]
  constructor
  · intro h
    by_cases hn : l.reverse.dropWhile (cs.contains ·) = []
    · intro x hx; exact (h1 _ _).1 hn x (by simpa using hx)
    · exfalso
      have := List.head_dropWhile_not (p := (cs.contains ·)) hn
      rw [h _ (by simp)] at this
      cases this
  · intro h x hx
    exact h x (by have := (List.dropWhile_sublist _).subset (List.mem_reverse.1 hx); simpa using this)
end Go.Proofs.AI

namespace Go.Proofs.AI
open Go.RowKit Go.Proofs
set_option linter.unusedVariables false
set_option linter.unusedSimpArgs false
set_option maxRecDepth 100000
theorem less_tot : ∀ a b : List UInt8, Op.bytesLess a b = !(Op.bytesLess b a || b == a)
  | [], [] => rfl
  | [], _ :: _ => rfl
  | _ :: _, [] => rfl
  | a :: x, b :: y => by
    simp only [Op.bytesLess]
    have ih := less_tot x y
    by_cases h1 : a < b
    · have h2 : ¬ b < a := UInt8.lt_asymm h1
      have hne : b ≠ a := by rintro rfl; exact h2 h1
      simp [h1, h2, hne]
    · by_cases h2 : b < a
      · have hne : a ≠ b := by rintro rfl; exact h1 h2
        simp [h1, h2, hne]
      · have he : a = b := UInt8.le_antisymm (by simpa using h2) (by simpa using h1)
        subst he
        simp [h1, ih]
theorem le_not (a b : ByteArray) : (Op.bytesLess a.toList b.toList || a.toList == b.toList) = !ltB b a := by
  have := less_tot b.toList a.toList
  simp only [ltB, this, Bool.not_not]
theorem item_val {x : Item} (h : itemB x = true) : 1 ≤ x.key.size ∧ (1 ≤ x.val.length ∧ x.val.length ≤ 3) ∧ ∀ i, 0 ≤ x.val.getD i 0 ∧ x.val.getD i 0 ≤ 9999 := by
  simp only [itemB, keyB, valB, Bool.and_eq_true] at h
  obtain ⟨⟨⟨h1, _⟩, _⟩, h2, h3⟩ := h
  simp [inR] at h1 h3
  refine ⟨by omega, by omega, fun i => ?_⟩
  refine getD_all (P := fun z : Int => 0 ≤ z ∧ z ≤ 9999) (fun z hz => ?_) (by omega) i
  have := List.all_eq_true.1 h2 z hz
  simpa [inR] using this
theorem c0 (n : Nat) : ((n : Int) == 0) = (n == 0) := by rw [Bool.eq_iff_iff]; simp <;> omega
theorem nc1 (n : Nat) : ((n : Int) = 1) ↔ n = 1 := by omega
theorem nc2 (n : Nat) : ((n : Int) = 2) ↔ n = 2 := by omega
theorem nc3 (n : Nat) : ((n : Int) = 3) ↔ n = 3 := by omega
theorem opr_ex' {o : Opr} {P : Opr → Prop} : (∃ x : Opr, (o.kind = x.kind ∧ o.who = x.who ∧ o.inn = x.inn ∧ o.code = x.code ∧ o.sec = x.sec ∧ o.fam = x.fam ∧ o.gen = x.gen) ∧ P x) ↔ P o :=
  ⟨fun ⟨x, ⟨h1, h2, h3, h4, h5, h6, h7⟩, h⟩ => by cases o; cases x; simp_all, fun h => ⟨o, ⟨rfl, rfl, rfl, rfl, rfl, rfl, rfl⟩, h⟩⟩
theorem wrap_byte (s : ByteArray) (k : Nat) : IntKind.i64.wrap (byteAt s k) = byteAt s k := by
  refine IntWalk.i64_in _ ?_
  unfold byteAt
  split
  · have := (s[k]).toNat_lt; omega
  · omega
theorem trim_key (s : ByteArray) (hs : 2 ≤ s.size ∧ s.size ≤ 3) (h : inR (byteAt s 0) 97 122 = true) : keyB s = ((trimD (s.extract 1 s.size)).toList == (ByteArray.mk #[]).toList) := by
  have hin : inR s.size 2 3 = true := by simp [inR]; omega
  have hd : ∀ c : UInt8, digits.data.toList.contains c = true ↔ 48 ≤ c.toNat ∧ c.toNat ≤ 57 := by
    intro c
    constructor
    · intro h
      have h : c ∈ digits.data.toList := by simpa using h
      simp only [digits, List.mem_cons, List.not_mem_nil, or_false] at h
      rcases h with rfl | rfl | rfl | rfl | rfl | rfl | rfl | rfl | rfl | rfl <;> decide
    · intro ⟨h1, h2⟩
      have hc : c = UInt8.ofNat c.toNat := by simp
      have : c.toNat = 48 ∨ c.toNat = 49 ∨ c.toNat = 50 ∨ c.toNat = 51 ∨ c.toNat = 52 ∨ c.toNat = 53 ∨ c.toNat = 54 ∨ c.toNat = 55 ∨ c.toNat = 56 ∨ c.toNat = 57 := by omega
      rcases this with h | h | h | h | h | h | h | h | h | h <;> (rw [hc, h]; decide)
  have e1 : ((trimD (s.extract 1 s.size)).toList == (ByteArray.mk #[]).toList) = decide (Lib.trimS (s.extract 1 s.size).data.toList digits.data.toList = []) := by
    rw [ByteArray.toList_eq, ByteArray.toList_eq]
    rw [Bool.eq_iff_iff, beq_iff_eq, decide_eq_true_eq]
    simp only [trimD]
  rw [e1, keyB, hin, h]
  rw [Bool.true_and, Bool.true_and, Bool.eq_iff_iff]
  simp only [decide_eq_true_eq, List.all_eq_true, List.mem_range, trim_nil, hd]
  have hl : (s.extract 1 s.size).data.toList = s.data.toList.drop 1 := by
    obtain ⟨⟨l⟩⟩ := s
    rw [Lib.extract_mk]
    exact List.take_of_length_le (by rw [List.length_drop, Lib.size_mk]; omega)
  have hl' : (s.extract 1 s.size).data.toList = s.data.toList.drop 1 := hl
  rw [hl']
  have hsz : s.data.toList.length = s.size := (Lib.size_eq s).symm
  have hdig : ∀ i (h : i < s.size), dig s i = true ↔ 48 ≤ (s[i]).toNat ∧ (s[i]).toNat ≤ 57 := fun i h => by
    unfold dig byteAt
    rw [dif_pos h]
    simp [inR]; omega
  have he : ∀ j (h : j + 1 < s.size) (h' : j < (s.data.toList.drop 1).length), (s.data.toList.drop 1)[j] = s[j + 1] := fun j h h' => by
    rw [List.getElem_drop]; simp only [Nat.add_comm]; rfl
  constructor
  · intro hk x hx
    obtain ⟨j, hj, rfl⟩ := List.getElem_of_mem hx
    have hj2 : j + 1 < s.size := by have := hj; rw [List.length_drop, hsz] at this; omega
    have := hk (j + 1) hj2
    rw [Bool.or_eq_true] at this
    rcases this with h | h
    · simp at h
    · rw [he j hj2 hj]; exact (hdig _ hj2).1 h
  · intro hk i hi
    cases i with
    | zero => rfl
    | succ j =>
      rw [Bool.or_eq_true]
      right
      have hj : j < (s.data.toList.drop 1).length := by rw [List.length_drop, hsz]; omega
      exact (hdig _ hi).2 (hk _ (by rw [← he j hi hj]; exact List.getElem_mem _))
theorem impl_in_ok (x : Int) (y : Int) (z : Int) : FunOK Tryz.prog 82 3 [] [(0, kI x), (1, kI y), (2, kI z)] (· = [(3, kB (inR x y z))]) := by
  refine fun_to (E := ⟨tab, ctOf [], 15, [], [(0, [0, 1, 2]), (1, [6])], [], [], [], []⟩) tab_ok mixed Tryz.func82 rfl Tryz.ntmps82 (rvs := [.tmp 6]) Tryz.results82 rfl fun hl => ?_
  refine cast (show ((decide (x ≥ y) = true → decide (x ≤ z) = inR x y z) ∧ (decide (x ≥ y) = false → false = inR x y z)) = _ by kernel_rfl) ?_
  simp only [inR]
  repeat' (first | apply And.intro | intro)
  all_goals (simp_all)
  all_goals omega
def impl_in_c : Con Tryz.prog := ⟨82, 3, [.lend, .lend, .lend], [], Int × Int × Int, none, fun b => [(0, kI b.1), (1, kI b.2.1), (2, kI b.2.2)], fun b => [(3, kB (inR b.1 b.2.1 b.2.2))], [], fun b h => impl_in_ok (b.1) (b.2.1) (b.2.2)⟩
theorem impl_OpOk_1_ok (x : Int) : FunOK Tryz.prog 81 1 [] [(0, kI x)] (· = [(1, kB (inR x 0 9))]) := by
  refine fun_to (E := ⟨tab, ctOf [impl_in_c], 5, [], [(0, [0]), (1, [2])], [], [], [], []⟩) tab_ok mixed Tryz.func81 rfl Tryz.ntmps81 (rvs := [.tmp 2]) Tryz.results81 rfl fun hl => ?_
  refine cast (show (∃ (b : Int × Int × Int), (x = b.1 ∧ (0 : Int) = b.2.1 ∧ (9 : Int) = b.2.2) ∧ inR b.1 b.2.1 b.2.2 = inR x (0 : Int) (9 : Int)) = _ by kernel_rfl) ?_
  simp only [Prod.exists, and_assoc, exists_eq_left', exists_and_left]
def impl_OpOk_1_c : Con Tryz.prog := ⟨81, 1, [.lend], [], Int, none, fun b => [(0, kI b)], fun b => [(1, kB (inR b 0 9))], [], fun b h => impl_OpOk_1_ok b⟩
theorem impl_OpOk_2_ok (x : Int) : FunOK Tryz.prog 83 1 [] [(0, kI x)] (· = [(1, kB (inR x 0 99))]) := by
  refine fun_to (E := ⟨tab, ctOf [impl_in_c], 5, [], [(0, [0]), (1, [2])], [], [], [], []⟩) tab_ok mixed Tryz.func83 rfl Tryz.ntmps83 (rvs := [.tmp 2]) Tryz.results83 rfl fun hl => ?_
  refine cast (show (∃ (b : Int × Int × Int), (x = b.1 ∧ (0 : Int) = b.2.1 ∧ (99 : Int) = b.2.2) ∧ inR b.1 b.2.1 b.2.2 = inR x (0 : Int) (99 : Int)) = _ by kernel_rfl) ?_
  simp only [Prod.exists, and_assoc, exists_eq_left', exists_and_left]
def impl_OpOk_2_c : Con Tryz.prog := ⟨83, 1, [.lend], [], Int, none, fun b => [(0, kI b)], fun b => [(1, kB (inR b 0 99))], [], fun b h => impl_OpOk_2_ok b⟩
theorem impl_OpOk_ok (o : Opr) : FunOK Tryz.prog 41 1 [] [(0, kOp o)] (· = [(1, kB (opOk o))]) := by
  refine fun_to (E := ⟨tab, ctOf [impl_OpOk_1_c, impl_OpOk_2_c], 98, [], [(0, [1]), (1, [1, 3]), (2, [1, 3, 4]), (3, [1, 44]), (4, [2]), (5, [1, 46]), (6, [1, 46, 47]), (7, [1, 46, 47]), (8, [2]), (9, [1, 46, 59]), (10, [2]), (11, [1, 46, 74]), (12, [2]), (13, [1, 87]), (14, [2]), (15, [2])], [], [], [], []⟩) tab_ok mixed Tryz.func41 rfl Tryz.ntmps41 (rvs := [.tmp 2]) Tryz.results41 rfl fun hl => ?_
  refine cast (show (∃ (b : Int), o.who = b ∧ ((!inR b (0 : Int) (9 : Int)) = false → ∃ (b : Int), o.inn = b ∧ ((!inR b (0 : Int) (9 : Int)) = false → ∃ (b : Int), o.code = b ∧ ((!inR b (0 : Int) (9 : Int)) = false → ∃ (b : Int), o.fam = b ∧ ((!inR b (0 : Int) (9 : Int)) = false → ∃ (b : Int), o.sec = b ∧ ((!inR b (0 : Int) (99 : Int)) = false → ∃ (b : Int), o.gen = b ∧ ((!inR b (0 : Int) (99 : Int)) = true → false = opOk o) ∧ ((!inR b (0 : Int) (99 : Int)) = false → ((o.kind == (1 : Int)) = true → (if false = true then !(o.kind == o.kind && (o.who == o.who && (o.inn == o.inn && (o.code == (0 : Int) && (o.sec == (0 : Int) && (o.fam == (0 : Int) && o.gen == (0 : Int))))))) else o.kind == o.kind && (o.who == o.who && (o.inn == o.inn && (o.code == (0 : Int) && (o.sec == (0 : Int) && (o.fam == (0 : Int) && o.gen == (0 : Int))))))) = opOk o) ∧ ((o.kind == (1 : Int)) = false → ((o.kind == (5 : Int)) = true → (if false = true then !(o.kind == o.kind && (o.who == o.who && (o.inn == o.inn && (o.code == (0 : Int) && (o.sec == (0 : Int) && (o.fam == (0 : Int) && o.gen == (0 : Int))))))) else o.kind == o.kind && (o.who == o.who && (o.inn == o.inn && (o.code == (0 : Int) && (o.sec == (0 : Int) && (o.fam == (0 : Int) && o.gen == (0 : Int))))))) = opOk o) ∧ ((o.kind == (5 : Int)) = false → ((o.kind == (2 : Int)) = true → (if false = true then !(o.kind == o.kind && (o.who == o.who && (o.inn == o.inn && (o.code == o.code && (o.sec == o.sec && (o.fam == (0 : Int) && o.gen == (0 : Int))))))) else o.kind == o.kind && (o.who == o.who && (o.inn == o.inn && (o.code == o.code && (o.sec == o.sec && (o.fam == (0 : Int) && o.gen == (0 : Int))))))) = opOk o) ∧ ((o.kind == (2 : Int)) = false → ((o.kind == (3 : Int)) = true → (if false = true then !(o.kind == o.kind && (o.who == (0 : Int) && (o.inn == (0 : Int) && (o.code == o.code && (o.sec == o.sec && (o.fam == o.fam && o.gen == (0 : Int))))))) else o.kind == o.kind && (o.who == (0 : Int) && (o.inn == (0 : Int) && (o.code == o.code && (o.sec == o.sec && (o.fam == o.fam && o.gen == (0 : Int))))))) = opOk o) ∧ ((o.kind == (3 : Int)) = false → ((o.kind == (4 : Int)) = true → (if false = true then !(o.kind == o.kind && (o.who == (0 : Int) && (o.inn == (0 : Int) && (o.code == (0 : Int) && (o.sec == (0 : Int) && (o.fam == o.fam && o.gen == o.gen)))))) else o.kind == o.kind && (o.who == (0 : Int) && (o.inn == (0 : Int) && (o.code == (0 : Int) && (o.sec == (0 : Int) && (o.fam == o.fam && o.gen == o.gen)))))) = opOk o) ∧ ((o.kind == (4 : Int)) = false → false = opOk o))))))) ∧ ((!inR b (0 : Int) (99 : Int)) = true → false = opOk o)) ∧ ((!inR b (0 : Int) (9 : Int)) = true → false = opOk o)) ∧ ((!inR b (0 : Int) (9 : Int)) = true → false = opOk o)) ∧ ((!inR b (0 : Int) (9 : Int)) = true → false = opOk o)) ∧ ((!inR b (0 : Int) (9 : Int)) = true → false = opOk o)) = _ by kernel_rfl) ?_
  simp only [exists_eq_left']
  repeat' (first | apply And.intro | intro)
  all_goals (simp_all [opOk, Bool.and_assoc])
def impl_OpOk_c : Con Tryz.prog := ⟨41, 1, [.lend], [], Opr, none, fun b => [(0, kOp b)], fun b => [(1, kB (opOk b))], [], fun b h => impl_OpOk_ok b⟩
theorem impl_OpPlaces_ok (o : Opr) : FunOK Tryz.prog 20 1 [] [(0, kOp o)] (· = [(1, k1 (oI (placesL o)))]) := by
  refine fun_to (E := ⟨tab, ctOf [impl_OpOk_c], 23, [], [(0, [1, 11, 21, 22]), (1, [1, 3, 11, 21, 22]), (2, [2, 11, 21, 22]), (3, [1, 7, 11, 21, 22]), (4, [2, 11, 21, 22]), (5, [11, 12, 21, 22]), (6, [2, 11, 21, 22]), (7, [2, 11, 21, 22])], [], [], [], []⟩) tab_ok mixed Tryz.func20 rfl Tryz.ntmps20 (rvs := [.tmp 2]) Tryz.results20 rfl fun hl => ?_
  refine cast (show (∃ (b : Opr), (o.kind = b.kind ∧ o.who = b.who ∧ o.inn = b.inn ∧ o.code = b.code ∧ o.sec = b.sec ∧ o.fam = b.fam ∧ o.gen = b.gen) ∧ ((!opOk b) = true → (placesL o).length = (0 : Nat)) ∧ ((!opOk b) = false → ((o.kind == (1 : Int)) = true → cnRs (typ (0 : Int) (fun (y : Int) => [CV.n IntKind.i64 y]) [(1 : Int), (3 : Int)]) = cnRs (typ (0 : Int) eI (placesL o))) ∧ ((o.kind == (1 : Int)) = false → ((o.kind == (2 : Int)) = false → ((o.kind == (5 : Int)) = true → cnRs (typ (0 : Int) (fun (y : Int) => [CV.n IntKind.i64 y]) [(1 : Int), (2 : Int), (3 : Int)]) = cnRs (typ (0 : Int) eI (placesL o))) ∧ ((o.kind == (5 : Int)) = false → cnRs (typ (0 : Int) (fun (y : Int) => [CV.n IntKind.i64 y]) [(2 : Int), (3 : Int)]) = cnRs (typ (0 : Int) eI (placesL o)))) ∧ ((o.kind == (2 : Int)) = true → cnRs (typ (0 : Int) (fun (y : Int) => [CV.n IntKind.i64 y]) [(1 : Int), (2 : Int), (3 : Int)]) = cnRs (typ (0 : Int) eI (placesL o)))))) = _ by kernel_rfl) ?_
  simp only [opr_ex', placesL]
  repeat' (first | apply And.intro | intro)
  all_goals (simp_all)
def impl_OpPlaces_c : Con Tryz.prog := ⟨20, 1, [.lend], [], Opr, none, fun b => [(0, kOp b)], fun b => [(1, k1 (oI (placesL b)))], [], fun b h => impl_OpPlaces_ok b⟩
theorem impl_keyOk_ok (s : ByteArray) : FunOK Tryz.prog 66 1 [] [(0, kS s)] (· = [(1, kB (keyB s))]) := by
  refine fun_to (E := ⟨tab, ctOf [trim_c, impl_in_c], 18, [], [(0, [0]), (1, [2])], [], [], [], []⟩) tab_ok mixed Tryz.func66 rfl Tryz.ntmps66 (rvs := [.tmp 2]) Tryz.results66 rfl fun hl => ?_
  refine cast (show (∃ (b : Int × Int × Int), ((↑s.size : Int) = b.1 ∧ (2 : Int) = b.2.1 ∧ (3 : Int) = b.2.2) ∧ (inR b.1 b.2.1 b.2.2 = true → ((0 : Int) ≤ (0 : Int) ∧ (0 : Int) < (↑s.size : Int)) ∧ ∃ (b : Int × Int × Int), (IntKind.i64.wrap (byteAt s (Int.toNat (0 : Int))) = b.1 ∧ (97 : Int) = b.2.1 ∧ (122 : Int) = b.2.2) ∧ (inR b.1 b.2.1 b.2.2 = true → ((0 : Int) ≤ (some (1 : Int)).getD (0 : Int) ∧ (some (1 : Int)).getD (0 : Int) ≤ none.getD (↑s.size : Int) ∧ none.getD (↑s.size : Int) ≤ (↑s.size : Int)) ∧ ∃ (b : ByteArray), (s.extract ((some (1 : Int)).getD (0 : Int)).toNat (none.getD (↑s.size : Int)).toNat = b ∧ (ByteArray.mk #[(48 : UInt8), (49 : UInt8), (50 : UInt8), (51 : UInt8), (52 : UInt8), (53 : UInt8), (54 : UInt8), (55 : UInt8), (56 : UInt8), (57 : UInt8)]) = digits) ∧ b.size ≤ (1000 : Nat) ∧ ((trimD b).toList == (ByteArray.mk #[]).toList) = keyB s) ∧ (inR b.1 b.2.1 b.2.2 = false → false = keyB s)) ∧ (inR b.1 b.2.1 b.2.2 = false → false = keyB s)) = _ by kernel_rfl) ?_
  simp only [Prod.exists, and_assoc, exists_eq_left', exists_and_left]
  refine ⟨fun h => ⟨by omega, by simp [inR] at h; omega, fun h2 => ?_, fun h2 => ?_⟩, fun h => by simp [keyB, h]⟩
  · have hs : 2 ≤ s.size ∧ s.size ≤ 3 := by simp [inR] at h; omega
    refine ⟨by simp, by simp; omega, by simp, rfl, by simp; omega, ?_⟩
    rw [wrap_byte] at h2
    exact (trim_key s hs h2).symm
  · rw [wrap_byte] at h2
    simp [keyB] at h2 ⊢; simp [h2]
def impl_keyOk_c : Con Tryz.prog := ⟨66, 1, [.lend], [], ByteArray, none, fun b => [(0, kS b)], fun b => [(1, kB (keyB b))], [], fun b h => impl_keyOk_ok b⟩
theorem impl_valOk_1_ok (x : Int) : FunOK Tryz.prog 105 1 [] [(0, kI x)] (· = [(1, kB (!inR x 0 9999))]) := by
  refine fun_to (E := ⟨tab, ctOf [impl_in_c], 6, [], [(0, [0]), (1, [2])], [], [], [], []⟩) tab_ok mixed Tryz.func105 rfl Tryz.ntmps105 (rvs := [.tmp 2]) Tryz.results105 rfl fun hl => ?_
  refine cast (show (∃ (b : Int × Int × Int), (x = b.1 ∧ (0 : Int) = b.2.1 ∧ (9999 : Int) = b.2.2) ∧ (!inR b.1 b.2.1 b.2.2) = !inR x (0 : Int) (9999 : Int)) = _ by kernel_rfl) ?_
  simp only [Prod.exists, and_assoc, exists_eq_left', exists_and_left]
def impl_valOk_1_c : Con Tryz.prog := ⟨105, 1, [.lend], [], Int, none, fun b => [(0, kI b)], fun b => [(1, kB (!inR b 0 9999))], [], fun b h => impl_valOk_1_ok b⟩
def idxOf {α : Type} (p : α → Bool) (xs : List α) : Int := if xs.any p then (xs.findIdx p : Int) else -1
theorem idx_hit {α : Type} {p : α → Bool} {xs : List α} {d : α} {i : Nat} (hi : i < xs.length) (hp : p (xs.getD i d) = true) (h : ∀ j, j < i → p (xs.getD j d) = false) : idxOf p xs = i := by
  have h1 : xs.any p = true := any_hit hi hp
  have h2 : xs.findIdx p = i := by
    rw [List.findIdx_eq hi]
    rw [getD_lt hi] at hp
    refine ⟨hp, fun j hj => ?_⟩
    have := h j hj
    rw [getD_lt (by omega)] at this
    simpa using this
  simp [idxOf, h1, h2]
theorem idx_miss {α : Type} {p : α → Bool} {xs : List α} {d : α} (h : ∀ j, j < xs.length → p (xs.getD j d) = false) : idxOf p xs = -1 := by
  simp [idxOf, any_miss h]
theorem idx_ge {α : Type} (p : α → Bool) (xs : List α) : decide (idxOf p xs ≥ 0) = xs.any p := by
  unfold idxOf
  cases xs.any p <;> simp
abbrev kF (f : FuncId) : Ky := k1 (.vl (.func (.func f) ⟨[]⟩ ⟨[]⟩))
theorem IndexVal_ok (xs : List Int) : FunOK Tryz.prog 136 2 [] [(0, k1 (sI xs)), (1, kF 105)] (· = [(2, kI (idxOf (fun x => !inR x 0 9999) xs))]) := by
  refine fun_to (E := ⟨tab, ctOf [impl_valOk_1_c], 19, [], [(0, [0, 1]), (1, [0, 1, 7, 8]), (2, [0, 1, 7, 8, 9]), (3, [0, 1, 5, 7, 8]), (4, [0, 1, 5, 7, 8, 16]), (5, [4]), (6, [0, 1, 7, 8]), (7, [4])], [(0, ⟨Nat, fun x => [(0, ⟨.one, [.c (.sh 3 (typ (0 : Int) eI xs))], []⟩), (1, ⟨.one, [.c (.vl (Value.func (Fn.func (105 : FuncId)) { toList := [] } { toList := [] }))], []⟩), (7, ⟨.one, [.c (.n IntKind.i64 ((↑xs.length : Int)))], []⟩), (8, ⟨.one, [.c (.n IntKind.i64 (x : Int))], []⟩)]⟩)], [], [], []⟩) tab_ok mixed Tryz.func136 rfl Tryz.ntmps136 (rvs := [.tmp 4]) Tryz.results136 rfl fun hl => ?_
  refine cast (show (∃ (pre : Nat → Prop), ∃ (μ : Nat → Nat), ∃ (x0 : Nat), (cnRs (typ (0 : Int) eI xs) = cnRs (typ (0 : Int) eI xs) ∧ Value.func (Fn.func (105 : FuncId)) { toList := [] } { toList := [] } = Value.func (Fn.func (105 : FuncId)) { toList := [] } { toList := [] } ∧ (↑xs.length : Int) = (↑xs.length : Int) ∧ (0 : Int) = (↑x0 : Int)) ∧ pre x0 ∧ ∀ (x : Nat), pre x → (decide ((↑x : Int) < (↑xs.length : Int)) = true → ((0 : Int) ≤ (↑x : Int) ∧ (↑x : Int) < (↑xs.length : Int)) ∧ ∃ (b : Int), xs.getD (↑x : Int).toNat (0 : Int) = b ∧ ((!inR b (0 : Int) (9999 : Int)) = true → (↑x : Int) = idxOf (fun (x : Int) => !inR x (0 : Int) (9999 : Int)) xs) ∧ ((!inR b (0 : Int) (9999 : Int)) = false → ∃ (y : Nat), (cnRs (typ (0 : Int) eI xs) = cnRs (typ (0 : Int) eI xs) ∧ Value.func (Fn.func (105 : FuncId)) { toList := [] } { toList := [] } = Value.func (Fn.func (105 : FuncId)) { toList := [] } { toList := [] } ∧ (↑xs.length : Int) = (↑xs.length : Int) ∧ IntKind.i64.wrap ((↑x : Int) + (1 : Int)) = (↑y : Int)) ∧ pre y ∧ μ y < μ x)) ∧ (decide ((↑x : Int) < (↑xs.length : Int)) = false → (-1 : Int) = idxOf (fun (x : Int) => !inR x (0 : Int) (9999 : Int)) xs)) = _ by kernel_rfl) ?_
  have hx : xs.length ≤ 9223372036854775807 := hl.1 _ (List.mem_singleton.2 rfl)
  simp only [cU, eU_iff, Prod.exists, Int.natCast_inj, and_assoc, exists_eq_left', exists_and_left, true_and, and_true, implies_true, and_self, bne_iff_ne, beq_iff_eq, beq_eq_false_iff_ne, ne_eq, forall_eq, Prod.forall, fi_eI, fi_eS, cI, nI_iff, cI_app, cItemO, cItemS, nItemO_iff, nItemS_iff, cWrtO, cWrtS, nWrtO_iff, nWrtS_iff, cStoO, cStoS, nStoO_iff, nStoS_iff, fItemO, fItemS, fWrtO, fWrtS, fStoO, fStoS, fI, frz_app, cWrtO_app, cWrtS_app, cWrtO_1, cItemO_1, opr_ex, zcast, cnRs_raw, cnRs_nil, frz_nil, nil_map, List.map_nil, Int.toNat_natCast, Bool.not_eq_true, Bool.not_eq_false, decide_eq_true_eq, decide_eq_false_iff_not, gt_iff_lt]
  refine ⟨fun i => i ≤ xs.length ∧ ∀ j, j < i → (!inR (xs.getD j 0) 0 9999) = false, ⟨by simp, fun j hj => absurd hj (Nat.not_lt_zero _)⟩, fun i => xs.length - i, fun i hi => ?_⟩
  obtain ⟨h1, h2⟩ := hi
  refine ⟨fun hlt => ⟨by omega, by omega, fun hp => ?_, fun hp => ⟨i + 1, wrapN (by omega), ⟨by omega, below_succ h2 hp⟩, by simp only; omega⟩⟩, fun hge => ?_⟩
  · exact (idx_hit (p := fun x => !inR x 0 9999) (by omega) hp h2).symm
  · exact (idx_miss (p := fun x => !inR x 0 9999) (d := 0) fun j hj => h2 j (by omega)).symm
def IndexVal_c : Con Tryz.prog := ⟨136, 2, [.lend, .lend], [], List Int, none, fun b => [(0, k1 (sI b)), (1, kF 105)], fun b => [(2, kI (idxOf (fun x => !inR x 0 9999) b))], [], fun b h => IndexVal_ok b⟩
theorem ContainsVal_ok (xs : List Int) : FunOK Tryz.prog 104 2 [] [(0, k1 (sI xs)), (1, kF 105)] (· = [(2, kB (xs.any fun x => !inR x 0 9999))]) := by
  refine fun_to (E := ⟨tab, ctOf [IndexVal_c], 9, [], [(0, [0, 1]), (1, [4])], [], [], [], []⟩) tab_ok mixed Tryz.func104 rfl Tryz.ntmps104 (rvs := [.tmp 4]) Tryz.results104 rfl fun hl => ?_
  refine cast (show (∃ (b : List Int), (cnRs (typ (0 : Int) eI xs) = cnRs (typ (0 : Int) eI b) ∧ Value.func (Fn.func (105 : FuncId)) { toList := [] } { toList := [] } = Value.func (Fn.func (105 : FuncId)) { toList := [] } { toList := [] }) ∧ decide (idxOf (fun (x : Int) => !inR x (0 : Int) (9999 : Int)) b ≥ (0 : Int)) = xs.any fun (x : Int) => !inR x (0 : Int) (9999 : Int)) = _ by kernel_rfl) ?_
  simp only [cU, eU_iff, Prod.exists, Int.natCast_inj, and_assoc, exists_eq_left', exists_and_left, true_and, and_true, implies_true, and_self, bne_iff_ne, beq_iff_eq, beq_eq_false_iff_ne, ne_eq, forall_eq, Prod.forall, fi_eI, fi_eS, cI, nI_iff, cI_app, cItemO, cItemS, nItemO_iff, nItemS_iff, cWrtO, cWrtS, nWrtO_iff, nWrtS_iff, cStoO, cStoS, nStoO_iff, nStoS_iff, fItemO, fItemS, fWrtO, fWrtS, fStoO, fStoS, fI, frz_app, cWrtO_app, cWrtS_app, cWrtO_1, cItemO_1, opr_ex, zcast, cnRs_raw, cnRs_nil, frz_nil, nil_map, List.map_nil, Int.toNat_natCast, Bool.not_eq_true, Bool.not_eq_false, decide_eq_true_eq, decide_eq_false_iff_not, gt_iff_lt]
  exact idx_ge _ _
def ContainsVal_c : Con Tryz.prog := ⟨104, 2, [.lend, .lend], [], List Int, none, fun b => [(0, k1 (sI b)), (1, kF 105)], fun b => [(2, kB (b.any fun x => !inR x 0 9999))], [], fun b h => ContainsVal_ok b⟩
theorem impl_valOk_ok (xs : List Int) : FunOK Tryz.prog 67 1 [] [(0, k1 (sI xs))] (· = [(1, kB (valB xs))]) := by
  refine fun_to (E := ⟨tab, ctOf [impl_in_c, ContainsVal_c], 11, [], [(0, [0]), (1, [2])], [], [], [], []⟩) tab_ok mixed Tryz.func67 rfl Tryz.ntmps67 (rvs := [.tmp 2]) Tryz.results67 rfl fun hl => ?_
  refine cast (show (∃ (b : Int × Int × Int), ((↑xs.length : Int) = b.1 ∧ (1 : Int) = b.2.1 ∧ (3 : Int) = b.2.2) ∧ (inR b.1 b.2.1 b.2.2 = true → ∃ (b : List Int), (cnRs (typ (0 : Int) eI xs) = cnRs (typ (0 : Int) eI b) ∧ Value.func (Fn.func (105 : Nat)) #[] #[] = Value.func (Fn.func (105 : FuncId)) { toList := [] } { toList := [] }) ∧ (!b.any fun (x : Int) => !inR x (0 : Int) (9999 : Int)) = valB xs) ∧ (inR b.1 b.2.1 b.2.2 = false → false = valB xs)) = _ by kernel_rfl) ?_
  simp only [cU, eU_iff, Prod.exists, Int.natCast_inj, and_assoc, exists_eq_left', exists_and_left, true_and, and_true, implies_true, and_self, bne_iff_ne, beq_iff_eq, beq_eq_false_iff_ne, ne_eq, forall_eq, Prod.forall, fi_eI, fi_eS, cI, nI_iff, cI_app, cItemO, cItemS, nItemO_iff, nItemS_iff, cWrtO, cWrtS, nWrtO_iff, nWrtS_iff, cStoO, cStoS, nStoO_iff, nStoS_iff, fItemO, fItemS, fWrtO, fWrtS, fStoO, fStoS, fI, frz_app, cWrtO_app, cWrtS_app, cWrtO_1, cItemO_1, opr_ex, zcast, cnRs_raw, cnRs_nil, frz_nil, nil_map, List.map_nil, Int.toNat_natCast, Bool.not_eq_true, Bool.not_eq_false, decide_eq_true_eq, decide_eq_false_iff_not, gt_iff_lt]
  refine ⟨fun h => ?_, fun h => by simp [valB, h]⟩
  simp [valB, h, List.all_eq_not_any_not]
def impl_valOk_c : Con Tryz.prog := ⟨67, 1, [.lend], [], List Int, none, fun b => [(0, k1 (sI b))], fun b => [(1, kB (valB b))], [], fun b h => impl_valOk_ok b⟩
theorem impl_StoOk_ok (s : Sto) : FunOK Tryz.prog 57 1 [] [(0, kSto s)] (· = [(1, kB (stoB s))]) := by
  refine fun_to (E := ⟨tab, ctOf [impl_keyOk_c, impl_valOk_c], 44, [], [(0, [1]), (1, [1, 5, 6, 7, 8]), (2, [1, 5, 6, 7, 8, 9]), (3, [1, 3, 4, 5, 6, 7, 8]), (4, [1, 5, 6, 7, 8, 38]), (5, [2]), (6, [1, 5, 6, 7, 8]), (7, [2])], [(0, ⟨Nat, fun x => [(1, ⟨.box, [.c (.sh 75 (typ dItem eItemS s))], []⟩), (5, ⟨.one, [SC.pr (1 : Nat) (0 : Nat) (0 : Nat)], []⟩), (6, ⟨.one, [.c (.sh 75 (typ dItem eItemS s))], []⟩), (7, ⟨.one, [.c (.n IntKind.i64 ((↑(List.length s) : Int)))], []⟩), (8, ⟨.one, [.c (.n IntKind.i64 (x : Int))], []⟩)]⟩)], [], [], []⟩) tab_ok mixed Tryz.func57 rfl Tryz.ntmps57 (rvs := [.tmp 2]) Tryz.results57 rfl fun hl => ?_
  refine cast (show (∃ (pre : Nat → Prop), ∃ (μ : Nat → Nat), ∃ (x0 : Nat), (cnRs (typ dItem eItemS s) = cnRs (typ dItem eItemS s) ∧ ((1 : Nat) = (1 : Nat) ∧ (0 : Nat) = (0 : Nat) ∧ true = true) ∧ cnRs (typ dItem eItemS s) = cnRs (typ dItem eItemS s) ∧ (↑(List.length s) : Int) = (↑(List.length s) : Int) ∧ (0 : Int) = (↑x0 : Int)) ∧ pre x0 ∧ ∀ (x : Nat), pre x → (decide ((↑x : Int) < (↑(List.length s) : Int)) = true → ((0 : Int) ≤ (↑x : Int) ∧ (↑x : Int) < (↑(List.length s) : Int)) ∧ ∃ (b : ByteArray), (List.getD s (↑x : Int).toNat dItem).key = b ∧ ((!keyB b) = false → ∃ (b : List Int), cnRs (typ (0 : Int) eI (List.getD s (↑x : Int).toNat dItem).val) = cnRs (typ (0 : Int) eI b) ∧ ((!valB b) = false → (decide ((↑x : Int) > (0 : Int)) = true → ((0 : Int) ≤ IntKind.i64.wrap ((↑x : Int) - (1 : Int)) ∧ IntKind.i64.wrap ((↑x : Int) - (1 : Int)) < (↑(List.length s) : Int)) ∧ ((Op.bytesLess (List.getD s (↑x : Int).toNat dItem).key.toList (List.getD s (IntKind.i64.wrap ((↑x : Int) - (1 : Int))).toNat dItem).key.toList || (List.getD s (↑x : Int).toNat dItem).key.toList == (List.getD s (IntKind.i64.wrap ((↑x : Int) - (1 : Int))).toNat dItem).key.toList) = true → false = stoB s) ∧ ((Op.bytesLess (List.getD s (↑x : Int).toNat dItem).key.toList (List.getD s (IntKind.i64.wrap ((↑x : Int) - (1 : Int))).toNat dItem).key.toList || (List.getD s (↑x : Int).toNat dItem).key.toList == (List.getD s (IntKind.i64.wrap ((↑x : Int) - (1 : Int))).toNat dItem).key.toList) = false → ∃ (y : Nat), (cnRs (typ dItem eItemS s) = cnRs (typ dItem eItemS s) ∧ ((1 : Nat) = (1 : Nat) ∧ (0 : Nat) = (0 : Nat) ∧ true = true) ∧ cnRs (typ dItem eItemS s) = cnRs (typ dItem eItemS s) ∧ (↑(List.length s) : Int) = (↑(List.length s) : Int) ∧ IntKind.i64.wrap ((↑x : Int) + (1 : Int)) = (↑y : Int)) ∧ pre y ∧ μ y < μ x)) ∧ (decide ((↑x : Int) > (0 : Int)) = false → ∃ (y : Nat), (cnRs (typ dItem eItemS s) = cnRs (typ dItem eItemS s) ∧ ((1 : Nat) = (1 : Nat) ∧ (0 : Nat) = (0 : Nat) ∧ true = true) ∧ cnRs (typ dItem eItemS s) = cnRs (typ dItem eItemS s) ∧ (↑(List.length s) : Int) = (↑(List.length s) : Int) ∧ IntKind.i64.wrap ((↑x : Int) + (1 : Int)) = (↑y : Int)) ∧ pre y ∧ μ y < μ x)) ∧ ((!valB b) = true → false = stoB s)) ∧ ((!keyB b) = true → false = stoB s)) ∧ (decide ((↑x : Int) < (↑(List.length s) : Int)) = false → decide ((↑(List.length s) : Int) ≤ (40 : Int)) = stoB s)) = _ by kernel_rfl) ?_
  have hx : s.length ≤ 9223372036854775807 := hl.1 _ (List.mem_singleton.2 rfl)
  simp only [cU, eU_iff, Prod.exists, Int.natCast_inj, and_assoc, exists_eq_left', exists_and_left, true_and, and_true, implies_true, and_self, bne_iff_ne, beq_iff_eq, beq_eq_false_iff_ne, ne_eq, forall_eq, Prod.forall, fi_eI, fi_eS, cI, nI_iff, cI_app, cItemO, cItemS, nItemO_iff, nItemS_iff, cWrtO, cWrtS, nWrtO_iff, nWrtS_iff, cStoO, cStoS, nStoO_iff, nStoS_iff, fItemO, fItemS, fWrtO, fWrtS, fStoO, fStoS, fI, frz_app, cWrtO_app, cWrtS_app, cWrtO_1, cItemO_1, opr_ex, zcast, cnRs_raw, cnRs_nil, frz_nil, nil_map, List.map_nil, Int.toNat_natCast, Bool.not_eq_true, Bool.not_eq_false, decide_eq_true_eq, decide_eq_false_iff_not, gt_iff_lt, le_not]
  refine ⟨fun i => i ≤ s.length ∧ ∀ j, j < i → stoP s j = true, ⟨by simp, fun j hj => absurd hj (Nat.not_lt_zero _)⟩, fun i => s.length - i, fun x hx' => ?_⟩
  obtain ⟨h1, h2⟩ := hx'
  have bad : x < s.length → stoP s x = false → false = stoB s := fun hlt hp => by simp [stoB, range_hit hlt hp]
  have go : x < s.length → stoP s x = true → ∃ y : Nat, IntKind.i64.wrap ((x : Int) + 1) = (y : Int) ∧ (y ≤ s.length ∧ ∀ j, j < y → stoP s j = true) ∧ s.length - y < s.length - x := fun hlt hp =>
    ⟨x + 1, wrapN (by omega), ⟨by omega, below_succ h2 hp⟩, by omega⟩
  refine ⟨fun hlt => ⟨by omega, by omega, fun hk => ⟨fun hv => ⟨fun h0 => ?_, fun h0 => go (by omega) ?_⟩, fun hv => bad (by omega) ?_⟩, fun hk => bad (by omega) ?_⟩, fun hge => ?_⟩
  · have e1 : IntKind.i64.wrap ((x : Int) - 1) = ((x - 1 : Nat) : Int) := by rw [IntWalk.i64_in _ (by omega)]; omega
    simp only [e1, Int.toNat_natCast]
    refine ⟨by omega, by omega, fun h => bad (by omega) ?_, fun h => go (by omega) ?_⟩
    · have h' : ltB (s.getD (x - 1) dItem).key (s.getD x dItem).key = false := by simpa only [Bool.not_eq_true'] using h
      have h3 : (x == 0) = false := by simp; omega
      unfold stoP
      rw [h', h3]
      simp only [Bool.or_false, Bool.and_false]
    · simp_all [stoP, itemB]
  · simp at h0; subst h0; simp_all [stoP, itemB]
  · simp_all [stoP, itemB]
  · simp_all [stoP, itemB]
  · have : x = s.length := by omega
    subst this
    rw [stoB, range_miss h2, Bool.and_true]; exact decide_eq_decide.2 (by omega)
def impl_StoOk_c : Con Tryz.prog := ⟨57, 1, [.lend], [], Sto, none, fun b => [(0, kSto b)], fun b => [(1, kB (stoB b))], [], fun b h => impl_StoOk_ok b⟩
theorem impl_itemOk_ok (p : Int) (x : Item) (hpre : itemB x = true) : FunOK Tryz.prog 69 2 [] [(0, kI p), (1, kItem x)] (· = [(2, kB (formI p x))]) := by
  refine fun_to (E := ⟨tab, ctOf [impl_in_c], 87, [], [(0, [0, 3]), (1, [0, 3, 5, 6, 7]), (2, [0, 3, 5, 6, 7, 8]), (3, [3, 5, 6, 7, 8, 26]), (4, [3, 5, 6, 7, 8, 26, 27]), (5, [4]), (6, [3, 5, 6, 7, 8, 26, 41]), (7, [3, 5, 6, 7, 8, 9]), (8, [6, 8, 9, 10]), (9, [4]), (10, [5, 7, 79]), (11, [4]), (12, [4])], [], [], [], []⟩) tab_ok mixed Tryz.func69 rfl Tryz.ntmps69 (rvs := [.tmp 4]) Tryz.results69 rfl fun hl => ?_
  refine cast (show (((0 : Int) ≤ (0 : Int) ∧ (0 : Int) < (↑x.key.size : Int)) ∧ ((0 : Int) ≤ (0 : Int) ∧ (0 : Int) < (↑x.val.length : Int)) ∧ ∃ (b : Int × Int × Int), (x.val.getD (Int.toNat (0 : Int)) (0 : Int) = b.1 ∧ (0 : Int) = b.2.1 ∧ (9 : Int) = b.2.2) ∧ ((p == (1 : Int)) = true → ((byteAt x.key (Int.toNat (0 : Int)) == (115 : Int)) = true → (((↑x.key.size : Int) == (2 : Int)) = true → (((↑x.val.length : Int) == (1 : Int)) = true → inR b.1 b.2.1 b.2.2 = formI p x) ∧ (((↑x.val.length : Int) == (1 : Int)) = false → false = formI p x)) ∧ (((↑x.key.size : Int) == (2 : Int)) = false → false = formI p x)) ∧ ((byteAt x.key (Int.toNat (0 : Int)) == (115 : Int)) = false → false = formI p x)) ∧ ((p == (1 : Int)) = false → ((p == (2 : Int)) = true → ((byteAt x.key (Int.toNat (0 : Int)) == (99 : Int)) = true → ((byteAt x.key (Int.toNat (0 : Int)) == (102 : Int)) = true → (((↑x.val.length : Int) == (3 : Int)) = true → ((0 : Int) ≤ (1 : Int) ∧ (1 : Int) < (↑x.val.length : Int)) ∧ ∃ (b_1 : Int × Int × Int), (x.val.getD (Int.toNat (1 : Int)) (0 : Int) = b_1.1 ∧ (1 : Int) = b_1.2.1 ∧ (99 : Int) = b_1.2.2) ∧ (inR b_1.1 b_1.2.1 b_1.2.2 = true → ((0 : Int) ≤ (2 : Int) ∧ (2 : Int) < (↑x.val.length : Int)) ∧ (((↑x.key.size : Int) == (2 : Int)) = true → (inR b.1 b.2.1 b.2.2 = true → (((↑x.val.length : Int) == (2 : Int)) = false → decide (x.val.getD (Int.toNat (2 : Int)) (0 : Int) ≤ (1 : Int)) = formI p x) ∧ (((↑x.val.length : Int) == (2 : Int)) = true → true = formI p x)) ∧ (inR b.1 b.2.1 b.2.2 = false → false = formI p x)) ∧ (((↑x.key.size : Int) == (2 : Int)) = false → false = formI p x)) ∧ (inR b_1.1 b_1.2.1 b_1.2.2 = false → (((↑x.key.size : Int) == (2 : Int)) = true → (inR b.1 b.2.1 b.2.2 = true → (((↑x.val.length : Int) == (2 : Int)) = false → false = formI p x) ∧ (((↑x.val.length : Int) == (2 : Int)) = true → true = formI p x)) ∧ (inR b.1 b.2.1 b.2.2 = false → false = formI p x)) ∧ (((↑x.key.size : Int) == (2 : Int)) = false → false = formI p x))) ∧ (((↑x.val.length : Int) == (3 : Int)) = false → (((↑x.key.size : Int) == (2 : Int)) = true → (inR b.1 b.2.1 b.2.2 = true → (((↑x.val.length : Int) == (2 : Int)) = false → false = formI p x) ∧ (((↑x.val.length : Int) == (2 : Int)) = true → true = formI p x)) ∧ (inR b.1 b.2.1 b.2.2 = false → false = formI p x)) ∧ (((↑x.key.size : Int) == (2 : Int)) = false → false = formI p x))) ∧ ((byteAt x.key (Int.toNat (0 : Int)) == (102 : Int)) = false → (((↑x.key.size : Int) == (2 : Int)) = true → (inR b.1 b.2.1 b.2.2 = true → (((↑x.val.length : Int) == (2 : Int)) = false → false = formI p x) ∧ (((↑x.val.length : Int) == (2 : Int)) = true → true = formI p x)) ∧ (inR b.1 b.2.1 b.2.2 = false → false = formI p x)) ∧ (((↑x.key.size : Int) == (2 : Int)) = false → false = formI p x))) ∧ ((byteAt x.key (Int.toNat (0 : Int)) == (99 : Int)) = false → ((byteAt x.key (Int.toNat (0 : Int)) == (102 : Int)) = true → (((↑x.val.length : Int) == (3 : Int)) = true → ((0 : Int) ≤ (1 : Int) ∧ (1 : Int) < (↑x.val.length : Int)) ∧ ∃ (b_1 : Int × Int × Int), (x.val.getD (Int.toNat (1 : Int)) (0 : Int) = b_1.1 ∧ (1 : Int) = b_1.2.1 ∧ (99 : Int) = b_1.2.2) ∧ (inR b_1.1 b_1.2.1 b_1.2.2 = true → ((0 : Int) ≤ (2 : Int) ∧ (2 : Int) < (↑x.val.length : Int)) ∧ (((↑x.key.size : Int) == (2 : Int)) = true → (inR b.1 b.2.1 b.2.2 = true → decide (x.val.getD (Int.toNat (2 : Int)) (0 : Int) ≤ (1 : Int)) = formI p x) ∧ (inR b.1 b.2.1 b.2.2 = false → false = formI p x)) ∧ (((↑x.key.size : Int) == (2 : Int)) = false → false = formI p x)) ∧ (inR b_1.1 b_1.2.1 b_1.2.2 = false → (((↑x.key.size : Int) == (2 : Int)) = true → (inR b.1 b.2.1 b.2.2 = true → false = formI p x) ∧ (inR b.1 b.2.1 b.2.2 = false → false = formI p x)) ∧ (((↑x.key.size : Int) == (2 : Int)) = false → false = formI p x))) ∧ (((↑x.val.length : Int) == (3 : Int)) = false → (((↑x.key.size : Int) == (2 : Int)) = true → (inR b.1 b.2.1 b.2.2 = true → false = formI p x) ∧ (inR b.1 b.2.1 b.2.2 = false → false = formI p x)) ∧ (((↑x.key.size : Int) == (2 : Int)) = false → false = formI p x))) ∧ ((byteAt x.key (Int.toNat (0 : Int)) == (102 : Int)) = false → (((↑x.key.size : Int) == (2 : Int)) = true → (inR b.1 b.2.1 b.2.2 = true → false = formI p x) ∧ (inR b.1 b.2.1 b.2.2 = false → false = formI p x)) ∧ (((↑x.key.size : Int) == (2 : Int)) = false → false = formI p x)))) ∧ ((p == (2 : Int)) = false → ((p == (3 : Int)) = true → ((byteAt x.key (Int.toNat (0 : Int)) == (97 : Int)) = true → ((↑x.val.length : Int) == (1 : Int)) = formI p x) ∧ ((byteAt x.key (Int.toNat (0 : Int)) == (97 : Int)) = false → false = formI p x)) ∧ ((p == (3 : Int)) = false → false = formI p x)))) = _ by kernel_rfl) ?_
  have hv := item_val hpre
  simp only [cU, eU_iff, Prod.exists, Int.natCast_inj, and_assoc, exists_eq_left', exists_and_left, true_and, and_true, implies_true, and_self, bne_iff_ne, beq_iff_eq, beq_eq_false_iff_ne, ne_eq, forall_eq, Prod.forall, fi_eI, fi_eS, cI, nI_iff, cI_app, cItemO, cItemS, nItemO_iff, nItemS_iff, cWrtO, cWrtS, nWrtO_iff, nWrtS_iff, cStoO, cStoS, nStoO_iff, nStoS_iff, fItemO, fItemS, fWrtO, fWrtS, fStoO, fStoS, fI, frz_app, cWrtO_app, cWrtS_app, cWrtO_1, cItemO_1, opr_ex, zcast, cnRs_raw, cnRs_nil, frz_nil, nil_map, List.map_nil, Int.toNat_natCast, Bool.not_eq_true, Bool.not_eq_false, decide_eq_true_eq, decide_eq_false_iff_not, gt_iff_lt]
  obtain ⟨v1, v2, v3⟩ := hv
  have w0 := v3 0
  have w1 := v3 1
  have w2 := v3 2
  have e1 : Int.toNat 1 = 1 := rfl
  have e2 : Int.toNat 2 = 2 := rfl
  simp only [Int.toNat_zero, e1, e2, formI]
  clear v3 e1 e2 hpre hl
  generalize byteAt x.key 0 = c at *
  generalize x.val.getD 0 0 = g0 at *
  generalize x.val.getD 1 0 = g1 at *
  generalize x.val.getD 2 0 = g2 at *
  generalize x.val.length = n at *
  generalize x.key.size = m at *
  have i0 : inR g0 0 9 = decide (g0 ≤ 9) := by simp [inR]; omega
  simp only [nc1, nc2, nc3, c1, i0]
  repeat' (first | with_reducible apply And.intro | with_reducible intro _)
  all_goals first | omega | (simp_all [inR]; done) | (simp_all [inR]; omega)
def impl_itemOk_c : Con Tryz.prog := ⟨69, 2, [.lend, .lend], [], Int × Item, some fun b => itemB b.2 = true, fun b => [(0, kI b.1), (1, kItem b.2)], fun b => [(2, kB (formI b.1 b.2))], [], fun b h => impl_itemOk_ok (b.1) (b.2) h⟩
theorem impl_isService_ok (p : Int) : FunOK Tryz.prog 70 1 [] [(0, kI p)] (· = [(1, kB (inR p 1 3))]) := by
  refine fun_to (E := ⟨tab, ctOf [impl_in_c], 5, [], [(0, [0]), (1, [2])], [], [], [], []⟩) tab_ok mixed Tryz.func70 rfl Tryz.ntmps70 (rvs := [.tmp 2]) Tryz.results70 rfl fun hl => ?_
  refine cast (show (∃ (b : Int × Int × Int), (p = b.1 ∧ (1 : Int) = b.2.1 ∧ (3 : Int) = b.2.2) ∧ inR b.1 b.2.1 b.2.2 = inR p (1 : Int) (3 : Int)) = _ by kernel_rfl) ?_
  simp only [Prod.exists, and_assoc, exists_eq_left', exists_and_left]
def impl_isService_c : Con Tryz.prog := ⟨70, 1, [.lend], [], Int, none, fun b => [(0, kI b)], fun b => [(1, kB (inR b 1 3))], [], fun b h => impl_isService_ok b⟩
theorem impl_isTx_ok (n : Int) : FunOK Tryz.prog 42 1 [] [(0, kI n)] (· = [(1, kB (inR n 0 29))]) := by
  refine fun_to (E := ⟨tab, ctOf [impl_in_c], 5, [], [(0, [0]), (1, [2])], [], [], [], []⟩) tab_ok mixed Tryz.func42 rfl Tryz.ntmps42 (rvs := [.tmp 2]) Tryz.results42 rfl fun hl => ?_
  refine cast (show (∃ (b : Int × Int × Int), (n = b.1 ∧ (0 : Int) = b.2.1 ∧ (29 : Int) = b.2.2) ∧ inR b.1 b.2.1 b.2.2 = inR n (0 : Int) (29 : Int)) = _ by kernel_rfl) ?_
  simp only [Prod.exists, and_assoc, exists_eq_left', exists_and_left]
def impl_isTx_c : Con Tryz.prog := ⟨42, 1, [.lend], [], Int, none, fun b => [(0, kI b)], fun b => [(1, kB (inR b 0 29))], [], fun b h => impl_isTx_ok b⟩
theorem impl_SecSum_ok (n : Int) : FunOK Tryz.prog 90 1 [] [(0, kI n)] (· = [(1, kI (secB n))]) := by
  refine fun_to (E := ⟨tab, ctOf [impl_in_c], 10, [], [(0, [0]), (1, [0, 5]), (2, [2]), (3, [2])], [], [], [], []⟩) tab_ok mixed Tryz.func90 rfl Tryz.ntmps90 (rvs := [.tmp 2]) Tryz.results90 rfl fun hl => ?_
  refine cast (show (∃ (b : Int × Int × Int), (n = b.1 ∧ (0 : Int) = b.2.1 ∧ (99 : Int) = b.2.2) ∧ ((!inR b.1 b.2.1 b.2.2) = true → (-1 : Int) = secB n) ∧ ((!inR b.1 b.2.1 b.2.2) = false → (9973 : Int) ≠ (0 : Int) ∧ (IntKind.i64.wrap (IntKind.i64.wrap ((7919 : Int) * n) + (104 : Int))).tmod (9973 : Int) = secB n)) = _ by kernel_rfl) ?_
  simp only [cU, eU_iff, Prod.exists, Int.natCast_inj, and_assoc, exists_eq_left', exists_and_left, true_and, and_true, implies_true, and_self, bne_iff_ne, beq_iff_eq, beq_eq_false_iff_ne, ne_eq, forall_eq, Prod.forall, fi_eI, fi_eS, cI, nI_iff, cI_app, cItemO, cItemS, nItemO_iff, nItemS_iff, cWrtO, cWrtS, nWrtO_iff, nWrtS_iff, cStoO, cStoS, nStoO_iff, nStoS_iff, fItemO, fItemS, fWrtO, fWrtS, fStoO, fStoS, fI, frz_app, cWrtO_app, cWrtS_app, cWrtO_1, cItemO_1, opr_ex, zcast, cnRs_raw, cnRs_nil, frz_nil, nil_map, List.map_nil, Int.toNat_natCast, Bool.not_eq_true, Bool.not_eq_false, decide_eq_true_eq, decide_eq_false_iff_not, gt_iff_lt]
  refine ⟨fun h => ?_, fun h => ⟨by omega, ?_⟩⟩
  · have h : inR n 0 99 = false := by simpa using h
    simp [secB, h]
  · have h : inR n 0 99 = true := by simpa using h
    have hn : 0 ≤ n ∧ n ≤ 99 := by simpa [inR] using h
    rw [IntWalk.i64_in (7919 * n) (by omega), IntWalk.i64_in _ (by omega)]
    simp only [secB, h, if_true]
    rw [Int.tmod_eq_emod_of_nonneg (by omega)]
    congr 1; omega
def impl_SecSum_c : Con Tryz.prog := ⟨90, 1, [.lend], [], Int, none, fun b => [(0, kI b)], fun b => [(1, kI (secB b))], [], fun b h => impl_SecSum_ok b⟩
theorem impl_WrtOk_ok (w : Wrt) : FunOK Tryz.prog 27 1 [] [(0, kWrt w)] (· = [(1, kB (wrtB w))]) := by
  refine fun_to (E := ⟨tab, ctOf [impl_keyOk_c, impl_valOk_c], 22, [], [(0, [1]), (1, [1, 4]), (2, [2]), (3, [2])], [], [], [], []⟩) tab_ok mixed Tryz.func27 rfl Tryz.ntmps27 (rvs := [.tmp 2]) Tryz.results27 rfl fun hl => ?_
  refine cast (show ((w.del = true → ∃ (b : ByteArray), w.key = b ∧ (keyB b = true → ((↑w.val.length : Int) == (0 : Int)) = wrtB w) ∧ (keyB b = false → false = wrtB w)) ∧ (w.del = false → ∃ (b : ByteArray), w.key = b ∧ (keyB b = true → ∃ (b : List Int), cnRs (typ (0 : Int) eI w.val) = cnRs (typ (0 : Int) eI b) ∧ valB b = wrtB w) ∧ (keyB b = false → false = wrtB w))) = _ by kernel_rfl) ?_
  simp only [cU, eU_iff, Prod.exists, Int.natCast_inj, and_assoc, exists_eq_left', exists_and_left, true_and, and_true, implies_true, and_self, bne_iff_ne, beq_iff_eq, beq_eq_false_iff_ne, ne_eq, forall_eq, Prod.forall, fi_eI, fi_eS, cI, nI_iff, cI_app, cItemO, cItemS, nItemO_iff, nItemS_iff, cWrtO, cWrtS, nWrtO_iff, nWrtS_iff, cStoO, cStoS, nStoO_iff, nStoS_iff, fItemO, fItemS, fWrtO, fWrtS, fStoO, fStoS, fI, frz_app, cWrtO_app, cWrtS_app, cWrtO_1, cItemO_1, opr_ex, zcast, cnRs_raw, cnRs_nil, frz_nil, nil_map, List.map_nil, Int.toNat_natCast, Bool.not_eq_true, Bool.not_eq_false, decide_eq_true_eq, decide_eq_false_iff_not, gt_iff_lt]
  repeat' (first | with_reducible apply And.intro | with_reducible intro _)
  all_goals simp_all [wrtB, c0]
def impl_WrtOk_c : Con Tryz.prog := ⟨27, 1, [.lend], [], Wrt, none, fun b => [(0, kWrt b)], fun b => [(1, kB (wrtB b))], [], fun b h => impl_WrtOk_ok b⟩
end Go.Proofs.AI
