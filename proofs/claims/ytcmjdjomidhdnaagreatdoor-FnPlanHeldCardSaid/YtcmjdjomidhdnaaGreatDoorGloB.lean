/- Data and contracts. Conditions: none. -/
import Derived.KernelRfl
import Derived.Test.YtcmjdjomidhdnaaGreatDoorGloA
namespace Go.Proofs.AI
open Go.RowKit Go.Proofs
set_option linter.unusedVariables false
set_option linter.unusedSimpArgs false
set_option maxRecDepth 100000
def digS (n : Int) : ByteArray := ⟨#[UInt8.ofNat (48 + n.toNat)]⟩
def natS (n : Nat) : ByteArray := if h : n < 10 then digS n else natS (n / 10) ++ digS (n % 10 : Nat)
theorem app_nil (x : ByteArray) : x ++ ⟨#[]⟩ = x := by
  apply ByteArray.ext; simp
theorem digS_size (n : Int) : (digS n).size = 1 := rfl
theorem natS_lt {n : Nat} (h : n < 10) : natS n = digS n := by rw [natS, dif_pos h]
theorem natS_ge {n : Nat} (h : ¬ n < 10) : natS n = natS (n / 10) ++ digS (n % 10 : Nat) := by rw [natS, dif_neg h]
theorem natS_size (n : Nat) (h : n < 100) : (natS n).size ≤ 2 := by
  rcases Nat.lt_or_ge n 10 with h1 | h1
  · rw [natS_lt h1, digS_size]; omega
  · rw [natS_ge (by omega), natS_lt (by omega), ByteArray.size_append, digS_size, digS_size]; omega
theorem u8_in {x : Int} (h : 0 ≤ x ∧ x ≤ 255) : IntKind.u8.wrap x = x := by
  simp only [IntKind.wrap, IntKind.signed, IntKind.bits]; simp; omega
def noP (l : List ByteArray) : Plan := ⟨false, l, []⟩
def kd (c : UInt8) (n : Int) : ByteArray := ⟨#[c]⟩ ++ digS n
def secB (n : Int) : Int := if inR n 0 99 then (n * 7919 + 104) % 9973 else -1
def placesL (o : Opr) : List Int := if opOk o then (if o.kind = 1 then [1, 3] else if o.kind = 2 ∨ o.kind = 5 then [1, 2, 3] else [2, 3]) else []
def formI (p : Int) (it : Item) : Bool :=
  let c := byteAt it.key 0
  let n := it.val.length
  let who := it.val.getD 0 0
  (((p == 1 && c == 115 && n == 1 && decide (who ≤ 9)) || (p == 3 && c == 97 && n == 1)) || (p == 2 && decide (who ≤ 9) && ((c == 99 && n == 2) || (c == 102 && n == 3 && inR (it.val.getD 1 0) 1 99 && decide (it.val.getD 2 0 ≤ 1))))) && (c == 97 || it.key.size == 2)
def formB (p : Int) (s : Sto) : Bool := s.all (formI p)
def plcB (p : Int) (s : Sto) : Bool := inR p 1 3 && stoB s && formB p s
abbrev kPlan (p : Plan) : Ky := ⟨.agg, [.c (.b p.ok), .c (oS p.locks), .c (oWrts p.writes)], []⟩
def getV (s : Sto) (k : ByteArray) : List Int := (getS s k).getD []
def hasV (s : Sto) (k : ByteArray) : Bool := (getS s k).isSome
def inP (s : Sto) (o : Opr) : Plan :=
  let key := kd 115 o.inn
  if o.kind = 1 then (if hasV s key = true then noP [key] else ⟨true, [key], [⟨key, false, [o.who]⟩]⟩)
  else if hasV s key = true ∧ (getV s key).getD 0 0 = o.who then ⟨true, [key], if o.kind = 5 then [⟨key, true, []⟩] else []⟩ else noP [key]
def tradeP (s : Sto) (o : Opr) : Plan :=
  let code := kd 99 o.code
  let fam := kd 102 o.fam
  let v := getV s code
  if hasV s code = true ∧ hasV s fam = false ∧ v.getD 1 0 = secB o.sec then ⟨true, [code, fam, kd 117 (v.getD 0 0)], [⟨code, true, []⟩, ⟨fam, false, [v.getD 0 0, 1, 1]⟩]⟩ else noP [code, fam]
def nextP (s : Sto) (o : Opr) : Plan :=
  let fam := kd 102 o.fam
  let v := getV s fam
  if hasV s fam = false ∨ v.getD 2 0 = 0 ∨ v.getD 1 0 < o.gen ∨ o.gen = 0 ∨ v.getD 1 0 = 99 then noP [fam]
  else ⟨true, [fam, kd 117 (v.getD 0 0)], [⟨fam, false, if o.gen < v.getD 1 0 then [v.getD 0 0, v.getD 1 0, 0] else [v.getD 0 0, v.getD 1 0 + 1, 1]⟩]⟩
def outI (o : Opr) (it : Item) : Bool := byteAt it.key 0 == 102 && it.val.getD 0 0 == o.who && it.val.getD 2 0 == 1
def outW (it : Item) : Wrt := ⟨it.key, false, [it.val.getD 0 0, it.val.getD 1 0, 0]⟩
def outP (s : Sto) (o : Opr) : Plan := ⟨true, kd 117 o.who :: (s.filter (outI o)).map (·.key), (s.filter (outI o)).map outW⟩
def mayP (s : Sto) (o : Opr) : Plan :=
  if o.kind = 2 then (let code := kd 99 o.code; if hasV s code = true then noP [code] else ⟨true, [code], [⟨code, false, [o.who, secB o.sec]⟩]⟩)
  else if o.kind = 3 then tradeP s o else if o.kind = 4 then nextP s o else outP s o
def planP (p : Int) (s : Sto) (tx : Int) (o : Opr) : Plan :=
  if p = 1 then inP s o else if p = 2 then mayP s o else
  let key := ⟨#[97]⟩ ++ natS tx.toNat
  if hasV s key = true then noP [key] else ⟨true, [key], [⟨key, false, [o.kind]⟩]⟩
def gloB (l : List Sto) : Bool := l.length == 3 && plcB 1 (l.getD 0 []) && plcB 2 (l.getD 1 []) && plcB 3 (l.getD 2 [])
theorem opt_cases {α : Type} (x : Option α) : x = none ∨ ∃ v, x = some v := by cases x <;> simp
theorem len2 {α : Type} : ∀ {l : List α}, l.length = 2 → ∃ a b, l = [a, b]
  | [a, b], _ => ⟨a, b, rfl⟩
theorem len3 {α : Type} : ∀ {l : List α}, l.length = 3 → ∃ a b c, l = [a, b, c]
  | [a, b, c], _ => ⟨a, b, c, rfl⟩
@[simp] theorem consS {a : ByteArray} {r : List (List CV)} {xs : List ByteArray} : [CV.s a] :: r = xs.map nS ↔ ∃ ys, xs = a :: ys ∧ r = ys.map nS := by
  constructor
  · intro h
    cases xs with
    | nil => simp at h
    | cons x xs => simp only [List.map_cons, nS, List.cons.injEq, CV.s.injEq, and_true] at h; exact ⟨xs, by rw [h.1], h.2⟩
  · rintro ⟨ys, h1, h2⟩
    subst h1; simp [h2]
@[simp] theorem nilS {xs : List ByteArray} : [] = xs.map nS ↔ xs = [] := by cases xs <;> simp
theorem eqB_eq {x y : ByteArray} (h : eqB x y = true) : x = y := by
  have h : x.toList = y.toList := by simpa [eqB] using h
  rw [ByteArray.toList_eq, ByteArray.toList_eq] at h
  exact ByteArray.ext (Array.toList_inj.1 h)
theorem get_some {s : Sto} {k : ByteArray} {v : List Int} (h : getS s k = some v) : ∃ it ∈ s, it.key = k ∧ it.val = v := by
  simp only [getS] at h
  obtain ⟨it, h1, h2⟩ := Option.map_eq_some_iff.1 h
  exact ⟨it, List.mem_of_find?_eq_some h1, eqB_eq (by simpa using List.find?_some h1), h2⟩
theorem plc_sto {p : Int} {s : Sto} (h : plcB p s = true) : stoB s = true := by
  simp only [plcB, Bool.and_eq_true] at h; exact h.1.2
theorem plc_small {p : Int} {s : Sto} (h : plcB p s = true) : small s := small_of (stoB_small (plc_sto h))
theorem plc_form {p : Int} {s : Sto} (h : plcB p s = true) {it : Item} (hm : it ∈ s) : formI p it = true := by
  simp only [plcB, Bool.and_eq_true] at h
  exact List.all_eq_true.1 h.2 it hm
theorem sto_item {s : Sto} (h : stoB s = true) {it : Item} (hm : it ∈ s) : itemB it = true := by
  simp only [stoB, Bool.and_eq_true, decide_eq_true_eq, List.all_eq_true, List.mem_range] at h
  obtain ⟨j, hj, rfl⟩ := List.getElem_of_mem hm
  have := h.2 j hj
  rw [stoP, getD_lt hj, Bool.and_eq_true] at this
  exact this.1
theorem sto_val {s : Sto} (h : stoB s = true) {it : Item} (hm : it ∈ s) : 1 ≤ it.val.length ∧ it.val.length ≤ 3 ∧ ∀ i, 0 ≤ it.val.getD i 0 ∧ it.val.getD i 0 ≤ 9999 := by
  have := sto_item h hm
  simp only [itemB, valB, Bool.and_eq_true, List.all_eq_true, inR, decide_eq_true_eq] at this
  refine ⟨by omega, by omega, fun i => ?_⟩
  rcases Nat.lt_or_ge i it.val.length with hi | hi
  · rw [getD_lt hi]; exact this.2.1 _ (List.getElem_mem hi)
  · simp [List.getD_eq_getElem?_getD, hi]
theorem kd_at (c : UInt8) (n : Int) : byteAt (kd c n) 0 = c.toNat := by
  have : kd c n = ⟨#[c, UInt8.ofNat (48 + n.toNat)]⟩ := by apply ByteArray.ext; simp [kd, digS]
  rw [this]; rfl
theorem get_in {s : Sto} (h : plcB 1 s = true) {k : ByteArray} {v : List Int} (hv : getS s k = some v) : v.length = 1 := by
  obtain ⟨it, hm, hk, rfl⟩ := get_some hv
  have := plc_form h hm
  simp [formI] at this
  omega
theorem get_code {s : Sto} (h : plcB 2 s = true) {n : Int} {v : List Int} (hv : getS s (kd 99 n) = some v) : v.length = 2 ∧ 0 ≤ v.getD 0 0 ∧ v.getD 0 0 ≤ 9 := by
  obtain ⟨it, hm, hk, rfl⟩ := get_some hv
  have h1 := plc_form h hm
  have h2 := (sto_val (plc_sto h) hm).2.2 0
  simp [formI, hk, kd_at] at h1 h2 ⊢
  omega
theorem get_fam {s : Sto} (h : plcB 2 s = true) {n : Int} {v : List Int} (hv : getS s (kd 102 n) = some v) : v.length = 3 ∧ 0 ≤ v.getD 0 0 ∧ v.getD 0 0 ≤ 9 ∧ 1 ≤ v.getD 1 0 ∧ v.getD 1 0 ≤ 99 := by
  obtain ⟨it, hm, hk, rfl⟩ := get_some hv
  have h1 := plc_form h hm
  have h2 := (sto_val (plc_sto h) hm).2.2 0
  simp [formI, hk, kd_at, inR] at h1 h2 ⊢
  omega
theorem sto_key {s : Sto} (h : stoB s = true) {it : Item} (hm : it ∈ s) : 2 ≤ it.key.size := by
  have := sto_item h hm
  simp only [itemB, keyB, Bool.and_eq_true, inR, decide_eq_true_eq] at this
  omega
theorem filter_succ {α : Type} {p : α → Bool} {d : α} {xs : List α} {i : Nat} (h : i < xs.length) : (xs.take (i + 1)).filter p = (xs.take i).filter p ++ if p (xs.getD i d) = true then [xs.getD i d] else [] := by
  rw [take_succ h (d := d), List.filter_append]
  simp [List.filter_cons]
theorem c1 (n : Nat) : ((n : Int) == 1) = (n == 1) := by rw [Bool.eq_iff_iff]; simp; omega
theorem c2 (n : Nat) : ((n : Int) == 2) = (n == 2) := by rw [Bool.eq_iff_iff]; simp; omega
theorem c3 (n : Nat) : ((n : Int) == 3) = (n == 3) := by rw [Bool.eq_iff_iff]; simp; omega
theorem n2 (n : Nat) : ((n : Int) != 2) = !(n == 2) := by rw [Bool.eq_iff_iff]; simp; omega
theorem t1 : Int.toNat 1 = 1 := rfl
theorem t2 : Int.toNat 2 = 2 := rfl
theorem op_nums {o : Opr} (h : opOk o = true) : (0 ≤ o.who ∧ o.who ≤ 9) ∧ (0 ≤ o.inn ∧ o.inn ≤ 9) ∧ (0 ≤ o.code ∧ o.code ≤ 9) ∧ (0 ≤ o.sec ∧ o.sec ≤ 99) ∧ (0 ≤ o.fam ∧ o.fam ≤ 9) ∧ (0 ≤ o.gen ∧ o.gen ≤ 99) := by
  simp [opOk, inR] at h; omega
theorem spec_l3Digit_ok (n : Int) (hpre : 0 ≤ n ∧ n ≤ 9) : FunOK Tryz.prog 124 1 [] [(0, kI n)] (· = [(1, kS (digS n))]) := by
  refine fun_to (E := ⟨tab, ctOf [], 8, [], [(0, [0]), (1, [2])], [], [], [], []⟩) tab_ok mixed Tryz.func124 rfl Tryz.ntmps124 (rvs := [.tmp 2]) Tryz.results124 rfl fun hl => ?_
  refine cast (show (strOfNums (List.map u8Of (typ (0 : Int) (fun (y : Int) => [CV.n IntKind.u8 y]) [IntKind.u8.wrap (IntKind.i64.wrap ((48 : Int) + n))]).l) = digS n) = _ by kernel_rfl) ?_
  rw [typ_l, IntWalk.i64_in _ (by omega), u8_in (by omega)]
  simp only [List.map, u8Of, strOfNums, digS]
  have : (48 + n).toNat = 48 + n.toNat := by omega
  simp [this, ByteArray.toList]
def spec_l3Digit_c : Con Tryz.prog := ⟨124, 1, [.lend], [], Int, some fun b => 0 ≤ b ∧ b ≤ 9, fun b => [(0, kI b)], fun b => [(1, kS (digS b))], [], fun b h => spec_l3Digit_ok b h⟩
theorem spec_l3Plain_ok (n : Int) (hpre : 0 ≤ n ∧ n ≤ 1000000) : FunOK Tryz.prog 100 1 [] [(0, kI n)] (· = [(1, kS (natS n.toNat))]) := by
  refine fun_to (E := ⟨tab, ctOf [spec_l3Digit_c], 17, [], [(0, [0]), (1, [0, 3]), (2, [0, 3, 5]), (3, [0, 3]), (4, [0, 3]), (5, [2])], [(0, ⟨Int × ByteArray, fun x => [(0, ⟨.one, [.c (.n IntKind.i64 (x.1))], []⟩), (3, ⟨.one, [.c (.s (x.2))], []⟩)]⟩)], [], [], []⟩) tab_ok mixed Tryz.func100 rfl Tryz.ntmps100 (rvs := [.tmp 2]) Tryz.results100 rfl fun hl => ?_
  refine cast (show (∃ (pre : Int × ByteArray → Prop), ∃ (μ : Int × ByteArray → Nat), ∃ (x0 : Int × ByteArray), (n = x0.1 ∧ (ByteArray.mk #[]) = x0.2) ∧ pre x0 ∧ ∀ (x : Int × ByteArray), pre x → (decide (x.1 > (9 : Int)) = true → (10 : Int) ≠ (0 : Int) ∧ ∃ (b : Int), x.1.tmod (10 : Int) = b ∧ ((0 : Int) ≤ b ∧ b ≤ (9 : Int)) ∧ (digS b).size + x.2.size ≤ (9223372036854775807 : Nat) ∧ (10 : Int) ≠ (0 : Int) ∧ ∃ (y : Int × ByteArray), (IntKind.i64.wrap (x.1.tdiv (10 : Int)) = y.1 ∧ digS b ++ x.2 = y.2) ∧ pre y ∧ μ y < μ x) ∧ (decide (x.1 > (9 : Int)) = false → ∃ (b : Int), x.1 = b ∧ ((0 : Int) ≤ b ∧ b ≤ (9 : Int)) ∧ (digS b).size + x.2.size ≤ (9223372036854775807 : Nat) ∧ digS b ++ x.2 = natS n.toNat)) = _ by kernel_rfl) ?_
  refine ⟨fun x => 0 ≤ x.1 ∧ x.1 ≤ 1000000 ∧ natS n.toNat = natS x.1.toNat ++ x.2 ∧ x.2.size + x.1.toNat ≤ 1000000, fun x => x.1.toNat, (n, ⟨#[]⟩), ⟨rfl, rfl⟩, ⟨by omega, by omega, (app_nil _).symm, by show 0 + n.toNat ≤ 1000000; omega⟩, fun x hp => ?_⟩
  obtain ⟨h1, h2, h3, h4⟩ := hp
  refine ⟨fun hgt => ?_, fun hle => ?_⟩
  · have hgt : 9 < x.1 := by simpa using hgt
    have hm : x.1.tmod 10 = ((x.1.toNat % 10 : Nat) : Int) := by rw [Int.tmod_eq_emod_of_nonneg h1]; omega
    have hq : IntKind.i64.wrap (x.1.tdiv 10) = ((x.1.toNat / 10 : Nat) : Int) := by rw [Int.tdiv_eq_ediv_of_nonneg h1, IntWalk.i64_in _ (by omega)]; omega
    refine ⟨by omega, _, rfl, by rw [hm]; omega, by rw [digS_size]; omega, by omega, (((x.1.toNat / 10 : Nat) : Int), digS (x.1.tmod 10) ++ x.2), ⟨hq, rfl⟩, ⟨by simp only; omega, by simp only; omega, ?_, ?_⟩, ?_⟩
    · simp only [Int.toNat_natCast]
      rw [h3, natS_ge (n := x.1.toNat) (by omega), hm, ByteArray.append_assoc]
    · simp only [Int.toNat_natCast, ByteArray.size_append, digS_size]; omega
    · simp only [Int.toNat_natCast]; omega
  · have hle : x.1 ≤ 9 := by simpa using hle
    refine ⟨_, rfl, by omega, by rw [digS_size]; omega, ?_⟩
    rw [h3, natS_lt (n := x.1.toNat) (by omega), Int.toNat_of_nonneg h1]
def spec_l3Plain_c : Con Tryz.prog := ⟨100, 1, [.lend], [], Int, some fun b => 0 ≤ b ∧ b ≤ 1000000, fun b => [(0, kI b)], fun b => [(1, kS (natS b.toNat))], [], fun b h => spec_l3Plain_ok b h⟩
theorem spec_SecSum_ok (n : Int) : FunOK Tryz.prog 125 1 [] [(0, kI n)] (· = [(1, kI (secB n))]) := by
  refine fun_to (E := ⟨tab, ctOf [spec_l1In_c], 10, [], [(0, [0]), (1, [0, 5]), (2, [2]), (3, [2])], [], [], [], []⟩) tab_ok mixed Tryz.func125 rfl Tryz.ntmps125 (rvs := [.tmp 2]) Tryz.results125 rfl fun hl => ?_
  refine cast (show (∃ (b : Int × Int × Int), (n = b.1 ∧ (0 : Int) = b.2.1 ∧ (99 : Int) = b.2.2) ∧ ((!inR b.1 b.2.1 b.2.2) = true → (-1 : Int) = secB n) ∧ ((!inR b.1 b.2.1 b.2.2) = false → (9973 : Int) ≠ (0 : Int) ∧ (IntKind.i64.wrap (IntKind.i64.wrap (n * (7919 : Int)) + (104 : Int))).tmod (9973 : Int) = secB n)) = _ by kernel_rfl) ?_
  refine ⟨(n, 0, 99), ⟨rfl, rfl, rfl⟩, fun h => ?_, fun h => ⟨by omega, ?_⟩⟩
  · simp_all [secB]
  · simp only [Bool.not_eq_false'] at h
    have : 0 ≤ n ∧ n ≤ 99 := by simpa [inR] using h
    rw [IntWalk.i64_in (n * 7919) (by omega), IntWalk.i64_in _ (by omega), Int.tmod_eq_emod_of_nonneg (by omega)]
    simp [secB, h]
def spec_SecSum_c : Con Tryz.prog := ⟨125, 1, [.lend], [], Int, none, fun b => [(0, kI b)], fun b => [(1, kI (secB b))], [], fun b h => spec_SecSum_ok b⟩
theorem spec_OpPlaces_ok (o : Opr) : FunOK Tryz.prog 61 1 [] [(0, kOp o)] (· = [(1, k1 (oI (placesL o)))]) := by
  refine fun_to (E := ⟨tab, ctOf [spec_OpOk_c], 17, [], [(0, [1, 6, 11, 15, 16]), (1, [1, 5, 6, 11, 15, 16]), (2, [2, 6, 11, 15, 16]), (3, [6, 8, 11, 15, 16]), (4, [6, 8, 9, 11, 15, 16]), (5, [2, 6, 11, 15, 16]), (6, [6, 8, 11, 12, 15, 16]), (7, [6, 11, 12, 15, 16]), (8, [2, 6, 11, 15, 16]), (9, [2, 6, 11, 15, 16])], [], [], [], []⟩) tab_ok mixed Tryz.func61 rfl Tryz.ntmps61 (rvs := [.tmp 2]) Tryz.results61 rfl fun hl => ?_
  refine cast (show (∃ (b : Opr), (o.kind = b.kind ∧ o.who = b.who ∧ o.inn = b.inn ∧ o.code = b.code ∧ o.sec = b.sec ∧ o.fam = b.fam ∧ o.gen = b.gen) ∧ ((!opOk b) = true → cnRs (raw []) = cnRs (typ (0 : Int) eI (placesL o))) ∧ ((!opOk b) = false → ((o.kind == (1 : Int)) = true → cnRs (typ (0 : Int) (fun (y : Int) => [CV.n IntKind.i64 y]) [(1 : Int), (3 : Int)]) = cnRs (typ (0 : Int) eI (placesL o))) ∧ ((o.kind == (1 : Int)) = false → ((o.kind == (2 : Int)) = true → cnRs (typ (0 : Int) (fun (y : Int) => [CV.n IntKind.i64 y]) [(1 : Int), (2 : Int), (3 : Int)]) = cnRs (typ (0 : Int) eI (placesL o))) ∧ ((o.kind == (2 : Int)) = false → ((o.kind == (5 : Int)) = true → cnRs (typ (0 : Int) (fun (y : Int) => [CV.n IntKind.i64 y]) [(1 : Int), (2 : Int), (3 : Int)]) = cnRs (typ (0 : Int) eI (placesL o))) ∧ ((o.kind == (5 : Int)) = false → cnRs (typ (0 : Int) (fun (y : Int) => [CV.n IntKind.i64 y]) [(2 : Int), (3 : Int)]) = cnRs (typ (0 : Int) eI (placesL o))))))) = _ by kernel_rfl) ?_
  refine ⟨o, ⟨rfl, rfl, rfl, rfl, rfl, rfl, rfl⟩, fun h => ?_, fun h => ?_⟩
  · simp_all [placesL]
  · simp only [Bool.not_eq_false'] at h
    simp only [placesL, h, if_true]
    refine ⟨fun a => ?_, fun a => ⟨fun b => ?_, fun b => ⟨fun c => ?_, fun c => ?_⟩⟩⟩ <;> simp_all
def spec_OpPlaces_c : Con Tryz.prog := ⟨61, 1, [.lend], [], Opr, none, fun b => [(0, kOp b)], fun b => [(1, k1 (oI (placesL b)))], [], fun b h => spec_OpPlaces_ok b⟩
theorem spec_l3No_ok (l : List ByteArray) (hpre : l.length ≤ 10) : FunOK Tryz.prog 102 1 [] [(0, k1 (sS l))] (· = [(1, kPlan (noP l))]) := by
  refine fun_to (E := ⟨tab, ctOf [], 7, [], [(0, [0, 2, 3, 4, 5, 6]), (1, [0, 2, 3, 4, 5, 6])], [], [], [], []⟩) tab_ok mixed Tryz.func102 rfl Tryz.ntmps102 (rvs := [.cell 2 41]) Tryz.results102 rfl fun hl => ?_
  refine cast (show (((0 : Nat) + l.length) * (16 : Nat) ≤ (140737488355328 : Nat) ∧ false = (noP l).ok ∧ cnRs (appR (raw []) (typ ByteArray.empty eS l)) = cnRs (typ ByteArray.empty eS (noP l).locks) ∧ cnRs nilR = cnRs (typ dWrt eWrtO (noP l).writes)) = _ by kernel_rfl) ?_
  exact ⟨by omega, rfl, by simp [noP], by simp [noP]⟩
def spec_l3No_c : Con Tryz.prog := ⟨102, 1, [.lend], [], List ByteArray, some fun b => b.length ≤ 10, fun b => [(0, k1 (sS b))], fun b => [(1, kPlan (noP b))], [], fun b h => spec_l3No_ok b h⟩
theorem spec_l3In_ok (s : Sto) (o : Opr) (hpre : plcB 1 s = true ∧ opOk o = true) : FunOK Tryz.prog 98 2 [] [(0, kSto s), (1, kOp o)] (· = [(2, kPlan (inP s o))]) := by
  refine fun_to (E := ⟨tab, ctOf [spec_l1Get_c, spec_l3No_c, spec_l3Digit_c], 58, [], [(0, [2, 3, 4, 8, 29, 37, 56, 57]), (1, [2, 3, 4, 5, 8, 29, 37, 56, 57]), (2, [3, 4, 5, 6, 7, 8, 13, 16, 17, 29, 37, 56, 57]), (3, [3, 4, 5, 6, 7, 8, 13, 16, 17, 29, 37, 56, 57]), (4, [3, 4, 5, 6, 7, 8, 13, 16, 17, 23, 29, 37, 56, 57]), (5, [3, 4, 5, 6, 7, 8, 13, 16, 17, 23, 24, 29, 37, 56, 57]), (6, [3, 4, 5, 8, 26, 29, 37, 56, 57]), (7, [4, 8, 29, 37, 56, 57]), (8, [4, 8, 29, 37, 56, 57]), (9, [4, 8, 29, 37, 56, 57]), (10, [3, 4, 5, 6, 7, 8, 13, 16, 17, 29, 37, 38, 56, 57]), (11, [3, 4, 5, 6, 7, 8, 13, 16, 17, 29, 37, 56, 57]), (12, [4, 5, 8, 29, 37, 53, 56, 57]), (13, [4, 8, 29, 37, 56, 57]), (14, [4, 8, 29, 37, 56, 57])], [], [(12, [(1000003, [])])], [], []⟩) tab_ok mixed Tryz.func98 rfl Tryz.ntmps98 (rvs := [.cell 4 41]) Tryz.results98 rfl fun hl => ?_
  refine cast (show (∃ (b : Int), o.inn = b ∧ ((0 : Int) ≤ b ∧ b ≤ (9 : Int)) ∧ (ByteArray.mk #[(115 : UInt8)]).size + (digS b).size ≤ (9223372036854775807 : Nat) ∧ ∃ (b_1 : Sto × ByteArray), (cnRs (typ dItem eItemS s) = cnRs (typ dItem eItemS b_1.1) ∧ (ByteArray.mk #[(115 : UInt8)]) ++ digS b = b_1.2) ∧ small b_1.1 ∧ ((o.kind == (1 : Int)) = true → ((getS b_1.1 b_1.2).isSome = true → ∃ (b_2 : List ByteArray), cnRs (frozenRs (typ ByteArray.empty (fun (y : ByteArray) => [CV.s y]) [(ByteArray.mk #[(115 : UInt8)]) ++ digS b])) = cnRs (typ ByteArray.empty eS b_2) ∧ b_2.length ≤ (10 : Nat) ∧ ((True ∧ (∀ (k : Nat), True ∧ True) ∧ (∀ (k : Nat), True ∧ True ∧ (∀ (k : Nat), True ∧ True) ∧ True) ∧ True) ∧ True) ∧ (noP b_2).ok = (inP s o).ok ∧ cnRs (typ ByteArray.empty eS (noP b_2).locks) = cnRs (typ ByteArray.empty eS (inP s o).locks) ∧ cnRs (typ dWrt eWrtO (noP b_2).writes) = cnRs (typ dWrt eWrtO (inP s o).writes)) ∧ ((getS b_1.1 b_1.2).isSome = false → true = (inP s o).ok ∧ cnRs (typ ByteArray.empty (fun (y : ByteArray) => [CV.s y]) [(ByteArray.mk #[(115 : UInt8)]) ++ digS b]) = cnRs (typ ByteArray.empty eS (inP s o).locks) ∧ cnRs (raw [[CV.s ((ByteArray.mk #[(115 : UInt8)]) ++ digS b), CV.b false, CV.ow (3 : Nat) (typ (0 : Int) (fun (y : Int) => [CV.n IntKind.i64 y]) [o.who])]]) = cnRs (typ dWrt eWrtO (inP s o).writes))) ∧ ((o.kind == (1 : Int)) = false → ((o.kind == (5 : Int)) = true → ((!(getS b_1.1 b_1.2).isSome) = false → ((0 : Int) ≤ (0 : Int) ∧ (0 : Int) < (↑((getS b_1.1 b_1.2).getD []).length : Int)) ∧ (0 : Nat) < ((getS b_1.1 b_1.2).getD []).length ∧ ((((getS b_1.1 b_1.2).getD []).getD (0 : Nat) (0 : Int) != o.who) = true → ∃ (b_2 : List ByteArray), cnRs (frozenRs (typ ByteArray.empty (fun (y : ByteArray) => [CV.s y]) [(ByteArray.mk #[(115 : UInt8)]) ++ digS b])) = cnRs (typ ByteArray.empty eS b_2) ∧ b_2.length ≤ (10 : Nat) ∧ ((True ∧ (∀ (k : Nat), True ∧ True) ∧ (∀ (k : Nat), True ∧ True ∧ (∀ (k : Nat), True ∧ True) ∧ True) ∧ True) ∧ True) ∧ (noP b_2).ok = (inP s o).ok ∧ cnRs (typ ByteArray.empty eS (noP b_2).locks) = cnRs (typ ByteArray.empty eS (inP s o).locks) ∧ cnRs (typ dWrt eWrtO (noP b_2).writes) = cnRs (typ dWrt eWrtO (inP s o).writes)) ∧ ((((getS b_1.1 b_1.2).getD []).getD (0 : Nat) (0 : Int) != o.who) = false → true = (inP s o).ok ∧ cnRs (typ ByteArray.empty (fun (y : ByteArray) => [CV.s y]) [(ByteArray.mk #[(115 : UInt8)]) ++ digS b]) = cnRs (typ ByteArray.empty eS (inP s o).locks) ∧ cnRs (raw [[CV.s ((ByteArray.mk #[(115 : UInt8)]) ++ digS b), CV.b true, CV.ow (3 : Nat) nilR]]) = cnRs (typ dWrt eWrtO (inP s o).writes))) ∧ ((!(getS b_1.1 b_1.2).isSome) = true → ∃ (b_2 : List ByteArray), cnRs (frozenRs (typ ByteArray.empty (fun (y : ByteArray) => [CV.s y]) [(ByteArray.mk #[(115 : UInt8)]) ++ digS b])) = cnRs (typ ByteArray.empty eS b_2) ∧ b_2.length ≤ (10 : Nat) ∧ ((True ∧ (∀ (k : Nat), True ∧ True) ∧ (∀ (k : Nat), True ∧ True ∧ (∀ (k : Nat), True ∧ True) ∧ True) ∧ True) ∧ True) ∧ (noP b_2).ok = (inP s o).ok ∧ cnRs (typ ByteArray.empty eS (noP b_2).locks) = cnRs (typ ByteArray.empty eS (inP s o).locks) ∧ cnRs (typ dWrt eWrtO (noP b_2).writes) = cnRs (typ dWrt eWrtO (inP s o).writes))) ∧ ((o.kind == (5 : Int)) = false → ((!(getS b_1.1 b_1.2).isSome) = false → ((0 : Int) ≤ (0 : Int) ∧ (0 : Int) < (↑((getS b_1.1 b_1.2).getD []).length : Int)) ∧ (0 : Nat) < ((getS b_1.1 b_1.2).getD []).length ∧ ((((getS b_1.1 b_1.2).getD []).getD (0 : Nat) (0 : Int) != o.who) = true → ∃ (b_2 : List ByteArray), cnRs (frozenRs (typ ByteArray.empty (fun (y : ByteArray) => [CV.s y]) [(ByteArray.mk #[(115 : UInt8)]) ++ digS b])) = cnRs (typ ByteArray.empty eS b_2) ∧ b_2.length ≤ (10 : Nat) ∧ ((True ∧ (∀ (k : Nat), True ∧ True) ∧ (∀ (k : Nat), True ∧ True ∧ (∀ (k : Nat), True ∧ True) ∧ True) ∧ True) ∧ True) ∧ (noP b_2).ok = (inP s o).ok ∧ cnRs (typ ByteArray.empty eS (noP b_2).locks) = cnRs (typ ByteArray.empty eS (inP s o).locks) ∧ cnRs (typ dWrt eWrtO (noP b_2).writes) = cnRs (typ dWrt eWrtO (inP s o).writes)) ∧ ((((getS b_1.1 b_1.2).getD []).getD (0 : Nat) (0 : Int) != o.who) = false → true = (inP s o).ok ∧ cnRs (typ ByteArray.empty (fun (y : ByteArray) => [CV.s y]) [(ByteArray.mk #[(115 : UInt8)]) ++ digS b]) = cnRs (typ ByteArray.empty eS (inP s o).locks) ∧ cnRs nilR = cnRs (typ dWrt eWrtO (inP s o).writes))) ∧ ((!(getS b_1.1 b_1.2).isSome) = true → ∃ (b_2 : List ByteArray), cnRs (frozenRs (typ ByteArray.empty (fun (y : ByteArray) => [CV.s y]) [(ByteArray.mk #[(115 : UInt8)]) ++ digS b])) = cnRs (typ ByteArray.empty eS b_2) ∧ b_2.length ≤ (10 : Nat) ∧ ((True ∧ (∀ (k : Nat), True ∧ True) ∧ (∀ (k : Nat), True ∧ True ∧ (∀ (k : Nat), True ∧ True) ∧ True) ∧ True) ∧ True) ∧ (noP b_2).ok = (inP s o).ok ∧ cnRs (typ ByteArray.empty eS (noP b_2).locks) = cnRs (typ ByteArray.empty eS (inP s o).locks) ∧ cnRs (typ dWrt eWrtO (noP b_2).writes) = cnRs (typ dWrt eWrtO (inP s o).writes))))) = _ by kernel_rfl) ?_
  have hn := op_nums hpre.2
  have hs := plc_small hpre.1
  have hg := fun v => get_in hpre.1 (k := kd 115 o.inn) (v := v)
  refine ⟨o.inn, rfl, by omega, show 1 + 1 ≤ 9223372036854775807 by omega, (s, kd 115 o.inn), ⟨rfl, rfl⟩, hs, ?_⟩
  rw [show (⟨#[115]⟩ ++ digS o.inn : ByteArray) = kd 115 o.inn from rfl]
  simp only [inP, hasV, getV]
  rcases opt_cases (getS s (kd 115 o.inn)) with hk | ⟨v, hk⟩
  · by_cases hkind : o.kind = 1 <;> simp [noP, hkind, hk]
  · obtain ⟨a, rfl⟩ := List.length_eq_one_iff.1 (hg v hk)
    by_cases hkind : o.kind = 1 <;> by_cases h1 : a = o.who <;> by_cases h5 : o.kind = 5 <;> simp_all [noP]
def spec_l3In_c : Con Tryz.prog := ⟨98, 2, [.lend, .lend], [], Sto × Opr, some fun b => plcB 1 b.1 = true ∧ opOk b.2 = true, fun b => [(0, kSto b.1), (1, kOp b.2)], fun b => [(2, kPlan (inP b.1 b.2))], [], fun b h => spec_l3In_ok (b.1) (b.2) h⟩
theorem spec_l3Trade_ok (s : Sto) (o : Opr) (hpre : plcB 2 s = true ∧ opOk o = true) : FunOK Tryz.prog 126 2 [] [(0, kSto s), (1, kOp o)] (· = [(2, kPlan (tradeP s o))]) := by
  refine fun_to (E := ⟨tab, ctOf [spec_l1Get_c, spec_l3No_c, spec_l3Digit_c, spec_SecSum_c], 67, [], [(0, [2, 3, 4, 48, 49, 50, 55, 56, 57, 58, 59, 62, 63, 64, 65, 66]), (1, [2, 3, 4, 5, 48, 49, 50, 55, 56, 57, 58, 59, 62, 63, 64, 65, 66]), (2, [2, 3, 4, 5, 6, 48, 49, 50, 55, 56, 57, 58, 59, 62, 63, 64, 65, 66]), (3, [2, 3, 4, 5, 6, 7, 8, 19, 22, 23, 48, 49, 50, 55, 56, 57, 58, 59, 62, 63, 64, 65, 66]), (4, [3, 4, 5, 6, 7, 8, 10, 19, 22, 23, 48, 49, 50, 55, 56, 57, 58, 59, 62, 63, 64, 65, 66]), (5, [4, 5, 6, 7, 19, 22, 23, 44, 48, 49, 50, 55, 56, 57, 58, 59, 62, 63, 64, 65, 66]), (6, [4, 48, 49, 50, 55, 56, 57, 58, 59, 62, 63, 64, 65, 66]), (7, [4, 48, 49, 50, 55, 56, 57, 58, 59, 62, 63, 64, 65, 66])], [], [], [], []⟩) tab_ok mixed Tryz.func126 rfl Tryz.ntmps126 (rvs := [.cell 4 41]) Tryz.results126 rfl fun hl => ?_
  refine cast (show (∃ (b : Int), o.code = b ∧ ((0 : Int) ≤ b ∧ b ≤ (9 : Int)) ∧ (ByteArray.mk #[(99 : UInt8)]).size + (digS b).size ≤ (9223372036854775807 : Nat) ∧ ∃ (b_1 : Int), o.fam = b_1 ∧ ((0 : Int) ≤ b_1 ∧ b_1 ≤ (9 : Int)) ∧ (ByteArray.mk #[(102 : UInt8)]).size + (digS b_1).size ≤ (9223372036854775807 : Nat) ∧ ∃ (b_2 : Sto × ByteArray), (cnRs (typ dItem eItemS s) = cnRs (typ dItem eItemS b_2.1) ∧ (ByteArray.mk #[(99 : UInt8)]) ++ digS b = b_2.2) ∧ small b_2.1 ∧ ∃ (b_3 : Sto × ByteArray), (cnRs (typ dItem eItemS s) = cnRs (typ dItem eItemS b_3.1) ∧ (ByteArray.mk #[(102 : UInt8)]) ++ digS b_1 = b_3.2) ∧ small b_3.1 ∧ ((!(getS b_2.1 b_2.2).isSome) = false → ((getS b_3.1 b_3.2).isSome = false → ((0 : Int) ≤ (1 : Int) ∧ (1 : Int) < (↑((getS b_2.1 b_2.2).getD []).length : Int)) ∧ (1 : Nat) < ((getS b_2.1 b_2.2).getD []).length ∧ ∃ (b_4 : Int), o.sec = b_4 ∧ ((((getS b_2.1 b_2.2).getD []).getD (1 : Nat) (0 : Int) != secB b_4) = true → ∃ (b_5 : List ByteArray), cnRs (frozenRs (typ ByteArray.empty (fun (y : ByteArray) => [CV.s y]) [(ByteArray.mk #[(99 : UInt8)]) ++ digS b, (ByteArray.mk #[(102 : UInt8)]) ++ digS b_1])) = cnRs (typ ByteArray.empty eS b_5) ∧ b_5.length ≤ (10 : Nat) ∧ ((True ∧ (∀ (k : Nat), True ∧ True) ∧ (∀ (k : Nat), True ∧ True ∧ (∀ (k : Nat), True ∧ True) ∧ True) ∧ True) ∧ True) ∧ (noP b_5).ok = (tradeP s o).ok ∧ cnRs (typ ByteArray.empty eS (noP b_5).locks) = cnRs (typ ByteArray.empty eS (tradeP s o).locks) ∧ cnRs (typ dWrt eWrtO (noP b_5).writes) = cnRs (typ dWrt eWrtO (tradeP s o).writes)) ∧ ((((getS b_2.1 b_2.2).getD []).getD (1 : Nat) (0 : Int) != secB b_4) = false → ((0 : Int) ≤ (0 : Int) ∧ (0 : Int) < (↑((getS b_2.1 b_2.2).getD []).length : Int)) ∧ (0 : Nat) < ((getS b_2.1 b_2.2).getD []).length ∧ ∃ (b_5 : Int), ((getS b_2.1 b_2.2).getD []).getD (0 : Nat) (0 : Int) = b_5 ∧ ((0 : Int) ≤ b_5 ∧ b_5 ≤ (9 : Int)) ∧ (ByteArray.mk #[(117 : UInt8)]).size + (digS b_5).size ≤ (9223372036854775807 : Nat) ∧ ((0 : Int) ≤ (0 : Int) ∧ (0 : Int) < (↑((getS b_2.1 b_2.2).getD []).length : Int)) ∧ (0 : Nat) < ((getS b_2.1 b_2.2).getD []).length ∧ true = (tradeP s o).ok ∧ cnRs (typ ByteArray.empty (fun (y : ByteArray) => [CV.s y]) [(ByteArray.mk #[(99 : UInt8)]) ++ digS b, (ByteArray.mk #[(102 : UInt8)]) ++ digS b_1, (ByteArray.mk #[(117 : UInt8)]) ++ digS b_5]) = cnRs (typ ByteArray.empty eS (tradeP s o).locks) ∧ cnRs (raw [[CV.s ((ByteArray.mk #[(99 : UInt8)]) ++ digS b), CV.b true, CV.ow (3 : Nat) nilR], [CV.s ((ByteArray.mk #[(102 : UInt8)]) ++ digS b_1), CV.b false, CV.ow (3 : Nat) (typ (0 : Int) (fun (y : Int) => [CV.n IntKind.i64 y]) [((getS b_2.1 b_2.2).getD []).getD (0 : Nat) (0 : Int), (1 : Int), (1 : Int)])]]) = cnRs (typ dWrt eWrtO (tradeP s o).writes))) ∧ ((getS b_3.1 b_3.2).isSome = true → ∃ (b_4 : List ByteArray), cnRs (frozenRs (typ ByteArray.empty (fun (y : ByteArray) => [CV.s y]) [(ByteArray.mk #[(99 : UInt8)]) ++ digS b, (ByteArray.mk #[(102 : UInt8)]) ++ digS b_1])) = cnRs (typ ByteArray.empty eS b_4) ∧ b_4.length ≤ (10 : Nat) ∧ ((True ∧ (∀ (k : Nat), True ∧ True) ∧ (∀ (k : Nat), True ∧ True ∧ (∀ (k : Nat), True ∧ True) ∧ True) ∧ True) ∧ True) ∧ (noP b_4).ok = (tradeP s o).ok ∧ cnRs (typ ByteArray.empty eS (noP b_4).locks) = cnRs (typ ByteArray.empty eS (tradeP s o).locks) ∧ cnRs (typ dWrt eWrtO (noP b_4).writes) = cnRs (typ dWrt eWrtO (tradeP s o).writes))) ∧ ((!(getS b_2.1 b_2.2).isSome) = true → ∃ (b_4 : List ByteArray), cnRs (frozenRs (typ ByteArray.empty (fun (y : ByteArray) => [CV.s y]) [(ByteArray.mk #[(99 : UInt8)]) ++ digS b, (ByteArray.mk #[(102 : UInt8)]) ++ digS b_1])) = cnRs (typ ByteArray.empty eS b_4) ∧ b_4.length ≤ (10 : Nat) ∧ ((True ∧ (∀ (k : Nat), True ∧ True) ∧ (∀ (k : Nat), True ∧ True ∧ (∀ (k : Nat), True ∧ True) ∧ True) ∧ True) ∧ True) ∧ (noP b_4).ok = (tradeP s o).ok ∧ cnRs (typ ByteArray.empty eS (noP b_4).locks) = cnRs (typ ByteArray.empty eS (tradeP s o).locks) ∧ cnRs (typ dWrt eWrtO (noP b_4).writes) = cnRs (typ dWrt eWrtO (tradeP s o).writes))) = _ by kernel_rfl) ?_
  have hn := op_nums hpre.2
  have hs := plc_small hpre.1
  have hg := fun v => get_code hpre.1 (n := o.code) (v := v)
  refine ⟨o.code, rfl, by omega, show 1 + 1 ≤ 9223372036854775807 by omega, o.fam, rfl, by omega, show 1 + 1 ≤ 9223372036854775807 by omega, (s, kd 99 o.code), ⟨rfl, rfl⟩, hs, (s, kd 102 o.fam), ⟨rfl, rfl⟩, hs, ?_⟩
  rw [show (⟨#[99]⟩ ++ digS o.code : ByteArray) = kd 99 o.code from rfl, show (⟨#[102]⟩ ++ digS o.fam : ByteArray) = kd 102 o.fam from rfl]
  simp only [tradeP, hasV, getV]
  rcases opt_cases (getS s (kd 99 o.code)) with hk | ⟨v, hk⟩
  · simp [noP, hk]
  · obtain ⟨g1, g2⟩ := hg v hk
    obtain ⟨a, b, rfl⟩ := len2 g1
    simp at g2
    rcases opt_cases (getS s (kd 102 o.fam)) with hf | ⟨u, hf⟩
    case inr => simp [noP, hk, hf]
    by_cases h1 : b = secB o.sec <;> simp [noP, hk, hf, h1, g2, digS_size, show (ByteArray.mk #[117]).size = 1 from rfl] <;> rfl
def spec_l3Trade_c : Con Tryz.prog := ⟨126, 2, [.lend, .lend], [], Sto × Opr, some fun b => plcB 2 b.1 = true ∧ opOk b.2 = true, fun b => [(0, kSto b.1), (1, kOp b.2)], fun b => [(2, kPlan (tradeP b.1 b.2))], [], fun b h => spec_l3Trade_ok (b.1) (b.2) h⟩
theorem spec_l3Next_ok (s : Sto) (o : Opr) (hpre : plcB 2 s = true ∧ opOk o = true) : FunOK Tryz.prog 127 2 [] [(0, kSto s), (1, kOp o)] (· = [(2, kPlan (nextP s o))]) := by
  refine fun_to (E := ⟨tab, ctOf [spec_l1Get_c, spec_l3No_c, spec_l3Digit_c], 82, [], [(0, [2, 3, 4, 8, 48, 51, 55, 56, 65, 68, 69, 70, 75, 76, 77, 78, 79, 80, 81]), (1, [2, 3, 4, 5, 8, 48, 51, 55, 56, 65, 68, 69, 70, 75, 76, 77, 78, 79, 80, 81]), (2, [3, 4, 5, 6, 7, 8, 13, 16, 17, 48, 51, 55, 56, 65, 68, 69, 70, 75, 76, 77, 78, 79, 80, 81]), (3, [3, 4, 5, 6, 8, 13, 16, 17, 45, 48, 51, 55, 56, 65, 68, 69, 70, 75, 76, 77, 78, 79, 80, 81]), (4, [4, 8, 48, 51, 55, 56, 65, 68, 69, 70, 75, 76, 77, 78, 79, 80, 81]), (5, [3, 4, 5, 6, 8, 13, 16, 17, 48, 51, 55, 56, 65, 68, 69, 70, 75, 76, 77, 78, 79, 80, 81]), (6, [4, 5, 6, 8, 13, 16, 17, 48, 51, 55, 56, 62, 65, 68, 69, 70, 75, 76, 77, 78, 79, 80, 81]), (7, [4, 5, 6, 8, 13, 16, 17, 48, 51, 55, 56, 65, 68, 69, 70, 75, 76, 77, 78, 79, 80, 81]), (8, [4, 8, 48, 51, 55, 56, 65, 68, 69, 70, 75, 76, 77, 78, 79, 80, 81])], [], [(8, [(1000001, []), (1000008, [])])], [], []⟩) tab_ok mixed Tryz.func127 rfl Tryz.ntmps127 (rvs := [.cell 4 41]) Tryz.results127 rfl fun hl => ?_
  refine cast (show (∃ (b : Int), o.fam = b ∧ ((0 : Int) ≤ b ∧ b ≤ (9 : Int)) ∧ (ByteArray.mk #[(102 : UInt8)]).size + (digS b).size ≤ (9223372036854775807 : Nat) ∧ ∃ (b_1 : Sto × ByteArray), (cnRs (typ dItem eItemS s) = cnRs (typ dItem eItemS b_1.1) ∧ (ByteArray.mk #[(102 : UInt8)]) ++ digS b = b_1.2) ∧ small b_1.1 ∧ ((!(getS b_1.1 b_1.2).isSome) = false → ((0 : Int) ≤ (2 : Int) ∧ (2 : Int) < (↑((getS b_1.1 b_1.2).getD []).length : Int)) ∧ (2 : Nat) < ((getS b_1.1 b_1.2).getD []).length ∧ ((((getS b_1.1 b_1.2).getD []).getD (2 : Nat) (0 : Int) == (0 : Int)) = false → ((0 : Int) ≤ (1 : Int) ∧ (1 : Int) < (↑((getS b_1.1 b_1.2).getD []).length : Int)) ∧ (1 : Nat) < ((getS b_1.1 b_1.2).getD []).length ∧ (decide (o.gen > ((getS b_1.1 b_1.2).getD []).getD (1 : Nat) (0 : Int)) = false → ((o.gen == (0 : Int)) = false → ((0 : Int) ≤ (1 : Int) ∧ (1 : Int) < (↑((getS b_1.1 b_1.2).getD []).length : Int)) ∧ (1 : Nat) < ((getS b_1.1 b_1.2).getD []).length ∧ ((((getS b_1.1 b_1.2).getD []).getD (1 : Nat) (0 : Int) == (99 : Int)) = true → ∃ (b_2 : List ByteArray), cnRs (frozenRs (typ ByteArray.empty (fun (y : ByteArray) => [CV.s y]) [(ByteArray.mk #[(102 : UInt8)]) ++ digS b])) = cnRs (typ ByteArray.empty eS b_2) ∧ b_2.length ≤ (10 : Nat) ∧ ((True ∧ (∀ (k : Nat), True ∧ True) ∧ (∀ (k : Nat), True ∧ True ∧ (∀ (k : Nat), True ∧ True) ∧ True) ∧ True) ∧ True) ∧ (noP b_2).ok = (nextP s o).ok ∧ cnRs (typ ByteArray.empty eS (noP b_2).locks) = cnRs (typ ByteArray.empty eS (nextP s o).locks) ∧ cnRs (typ dWrt eWrtO (noP b_2).writes) = cnRs (typ dWrt eWrtO (nextP s o).writes)) ∧ ((((getS b_1.1 b_1.2).getD []).getD (1 : Nat) (0 : Int) == (99 : Int)) = false → ((0 : Int) ≤ (0 : Int) ∧ (0 : Int) < (↑((getS b_1.1 b_1.2).getD []).length : Int)) ∧ (0 : Nat) < ((getS b_1.1 b_1.2).getD []).length ∧ ((0 : Int) ≤ (1 : Int) ∧ (1 : Int) < (↑((getS b_1.1 b_1.2).getD []).length : Int)) ∧ (1 : Nat) < ((getS b_1.1 b_1.2).getD []).length ∧ ((0 : Int) ≤ (1 : Int) ∧ (1 : Int) < (↑((getS b_1.1 b_1.2).getD []).length : Int)) ∧ (1 : Nat) < ((getS b_1.1 b_1.2).getD []).length ∧ (decide (o.gen < ((getS b_1.1 b_1.2).getD []).getD (1 : Nat) (0 : Int)) = true → ((0 : Int) ≤ (0 : Int) ∧ (0 : Int) < (↑((getS b_1.1 b_1.2).getD []).length : Int)) ∧ (0 : Nat) < ((getS b_1.1 b_1.2).getD []).length ∧ ((0 : Int) ≤ (1 : Int) ∧ (1 : Int) < (↑((getS b_1.1 b_1.2).getD []).length : Int)) ∧ (1 : Nat) < ((getS b_1.1 b_1.2).getD []).length ∧ ((0 : Int) ≤ (0 : Int) ∧ (0 : Int) < (↑((getS b_1.1 b_1.2).getD []).length : Int)) ∧ (0 : Nat) < ((getS b_1.1 b_1.2).getD []).length ∧ ∃ (b_2 : Int), ((getS b_1.1 b_1.2).getD []).getD (0 : Nat) (0 : Int) = b_2 ∧ ((0 : Int) ≤ b_2 ∧ b_2 ≤ (9 : Int)) ∧ (ByteArray.mk #[(117 : UInt8)]).size + (digS b_2).size ≤ (9223372036854775807 : Nat) ∧ true = (nextP s o).ok ∧ cnRs (typ ByteArray.empty (fun (y : ByteArray) => [CV.s y]) [(ByteArray.mk #[(102 : UInt8)]) ++ digS b, (ByteArray.mk #[(117 : UInt8)]) ++ digS b_2]) = cnRs (typ ByteArray.empty eS (nextP s o).locks) ∧ cnRs (raw [[CV.s ((ByteArray.mk #[(102 : UInt8)]) ++ digS b), CV.b false, CV.ow (3 : Nat) (typ (0 : Int) (fun (y : Int) => [CV.n IntKind.i64 y]) [((getS b_1.1 b_1.2).getD []).getD (0 : Nat) (0 : Int), ((getS b_1.1 b_1.2).getD []).getD (1 : Nat) (0 : Int), (0 : Int)])]]) = cnRs (typ dWrt eWrtO (nextP s o).writes)) ∧ (decide (o.gen < ((getS b_1.1 b_1.2).getD []).getD (1 : Nat) (0 : Int)) = false → ((0 : Int) ≤ (0 : Int) ∧ (0 : Int) < (↑((getS b_1.1 b_1.2).getD []).length : Int)) ∧ (0 : Nat) < ((getS b_1.1 b_1.2).getD []).length ∧ ∃ (b_2 : Int), ((getS b_1.1 b_1.2).getD []).getD (0 : Nat) (0 : Int) = b_2 ∧ ((0 : Int) ≤ b_2 ∧ b_2 ≤ (9 : Int)) ∧ (ByteArray.mk #[(117 : UInt8)]).size + (digS b_2).size ≤ (9223372036854775807 : Nat) ∧ true = (nextP s o).ok ∧ cnRs (typ ByteArray.empty (fun (y : ByteArray) => [CV.s y]) [(ByteArray.mk #[(102 : UInt8)]) ++ digS b, (ByteArray.mk #[(117 : UInt8)]) ++ digS b_2]) = cnRs (typ ByteArray.empty eS (nextP s o).locks) ∧ cnRs (raw [[CV.s ((ByteArray.mk #[(102 : UInt8)]) ++ digS b), CV.b false, CV.ow (3 : Nat) (typ (0 : Int) (fun (y : Int) => [CV.n IntKind.i64 y]) [((getS b_1.1 b_1.2).getD []).getD (0 : Nat) (0 : Int), IntKind.i64.wrap (((getS b_1.1 b_1.2).getD []).getD (1 : Nat) (0 : Int) + (1 : Int)), (1 : Int)])]]) = cnRs (typ dWrt eWrtO (nextP s o).writes)))) ∧ ((o.gen == (0 : Int)) = true → ∃ (b_2 : List ByteArray), cnRs (frozenRs (typ ByteArray.empty (fun (y : ByteArray) => [CV.s y]) [(ByteArray.mk #[(102 : UInt8)]) ++ digS b])) = cnRs (typ ByteArray.empty eS b_2) ∧ b_2.length ≤ (10 : Nat) ∧ ((True ∧ (∀ (k : Nat), True ∧ True) ∧ (∀ (k : Nat), True ∧ True ∧ (∀ (k : Nat), True ∧ True) ∧ True) ∧ True) ∧ True) ∧ (noP b_2).ok = (nextP s o).ok ∧ cnRs (typ ByteArray.empty eS (noP b_2).locks) = cnRs (typ ByteArray.empty eS (nextP s o).locks) ∧ cnRs (typ dWrt eWrtO (noP b_2).writes) = cnRs (typ dWrt eWrtO (nextP s o).writes))) ∧ (decide (o.gen > ((getS b_1.1 b_1.2).getD []).getD (1 : Nat) (0 : Int)) = true → ∃ (b_2 : List ByteArray), cnRs (frozenRs (typ ByteArray.empty (fun (y : ByteArray) => [CV.s y]) [(ByteArray.mk #[(102 : UInt8)]) ++ digS b])) = cnRs (typ ByteArray.empty eS b_2) ∧ b_2.length ≤ (10 : Nat) ∧ ((True ∧ (∀ (k : Nat), True ∧ True) ∧ (∀ (k : Nat), True ∧ True ∧ (∀ (k : Nat), True ∧ True) ∧ True) ∧ True) ∧ True) ∧ (noP b_2).ok = (nextP s o).ok ∧ cnRs (typ ByteArray.empty eS (noP b_2).locks) = cnRs (typ ByteArray.empty eS (nextP s o).locks) ∧ cnRs (typ dWrt eWrtO (noP b_2).writes) = cnRs (typ dWrt eWrtO (nextP s o).writes))) ∧ ((((getS b_1.1 b_1.2).getD []).getD (2 : Nat) (0 : Int) == (0 : Int)) = true → ∃ (b_2 : List ByteArray), cnRs (frozenRs (typ ByteArray.empty (fun (y : ByteArray) => [CV.s y]) [(ByteArray.mk #[(102 : UInt8)]) ++ digS b])) = cnRs (typ ByteArray.empty eS b_2) ∧ b_2.length ≤ (10 : Nat) ∧ ((True ∧ (∀ (k : Nat), True ∧ True) ∧ (∀ (k : Nat), True ∧ True ∧ (∀ (k : Nat), True ∧ True) ∧ True) ∧ True) ∧ True) ∧ (noP b_2).ok = (nextP s o).ok ∧ cnRs (typ ByteArray.empty eS (noP b_2).locks) = cnRs (typ ByteArray.empty eS (nextP s o).locks) ∧ cnRs (typ dWrt eWrtO (noP b_2).writes) = cnRs (typ dWrt eWrtO (nextP s o).writes))) ∧ ((!(getS b_1.1 b_1.2).isSome) = true → ∃ (b_2 : List ByteArray), cnRs (frozenRs (typ ByteArray.empty (fun (y : ByteArray) => [CV.s y]) [(ByteArray.mk #[(102 : UInt8)]) ++ digS b])) = cnRs (typ ByteArray.empty eS b_2) ∧ b_2.length ≤ (10 : Nat) ∧ ((True ∧ (∀ (k : Nat), True ∧ True) ∧ (∀ (k : Nat), True ∧ True ∧ (∀ (k : Nat), True ∧ True) ∧ True) ∧ True) ∧ True) ∧ (noP b_2).ok = (nextP s o).ok ∧ cnRs (typ ByteArray.empty eS (noP b_2).locks) = cnRs (typ ByteArray.empty eS (nextP s o).locks) ∧ cnRs (typ dWrt eWrtO (noP b_2).writes) = cnRs (typ dWrt eWrtO (nextP s o).writes))) = _ by kernel_rfl) ?_
  have hn := op_nums hpre.2
  have hs := plc_small hpre.1
  have hg := fun v => get_fam hpre.1 (n := o.fam) (v := v)
  refine ⟨o.fam, rfl, by omega, show 1 + 1 ≤ 9223372036854775807 by omega, (s, kd 102 o.fam), ⟨rfl, rfl⟩, hs, ?_⟩
  rw [show (⟨#[102]⟩ ++ digS o.fam : ByteArray) = kd 102 o.fam from rfl]
  simp only [nextP, hasV, getV]
  rcases opt_cases (getS s (kd 102 o.fam)) with hk | ⟨v, hk⟩
  · simp [noP, hk]
  · obtain ⟨g1, g2⟩ := hg v hk
    obtain ⟨a, b, c, rfl⟩ := len3 g1
    simp at g2
    by_cases h1 : c = 0
    · simp [noP, hk, h1]
    by_cases h2 : b < o.gen
    · simp [noP, hk, h1, h2]
    by_cases h3 : o.gen = 0
    · simp [noP, hk, h1, h2, h3]
    by_cases h4 : b = 99
    · simp [noP, hk, h1, h2, h3, h4]
    by_cases h5 : o.gen < b <;> simp [noP, hk, h1, h2, h3, h4, h5, g2, digS_size, show (ByteArray.mk #[117]).size = 1 from rfl, IntWalk.i64_in (b + 1) (by omega)] <;> rfl
def spec_l3Next_c : Con Tryz.prog := ⟨127, 2, [.lend, .lend], [], Sto × Opr, some fun b => plcB 2 b.1 = true ∧ opOk b.2 = true, fun b => [(0, kSto b.1), (1, kOp b.2)], fun b => [(2, kPlan (nextP b.1 b.2))], [], fun b h => spec_l3Next_ok (b.1) (b.2) h⟩
theorem spec_l3Out_ok (s : Sto) (o : Opr) (hpre : plcB 2 s = true ∧ opOk o = true) : FunOK Tryz.prog 128 2 [] [(0, kSto s), (1, kOp o)] (· = [(2, kPlan (outP s o))]) := by
  refine fun_to (E := ⟨tab, ctOf [spec_l3Digit_c], 71, [], [(0, [2, 3, 4, 5, 70]), (1, [2, 3, 4, 5, 70]), (2, [2, 3, 4, 5, 6, 70]), (3, [2, 3, 4, 5, 6, 18, 70]), (4, [2, 3, 4, 5, 6, 70]), (5, [2, 3, 4, 5, 6, 7, 70]), (6, [2, 3, 4, 5, 6, 7, 45, 70]), (7, [2, 3, 4, 5, 6, 7, 70]), (8, [2, 3, 4, 5, 6, 70]), (9, [4, 5, 70])], [(0, ⟨List ByteArray × List Wrt × Nat, fun x => [(2, ⟨.box, [.c (.sh 75 (typ dItem eItemS s))], []⟩), (3, ⟨.box, [.c (.n IntKind.i64 o.kind), .c (.n IntKind.i64 o.who), .c (.n IntKind.i64 o.inn), .c (.n IntKind.i64 o.code), .c (.n IntKind.i64 o.sec), .c (.n IntKind.i64 o.fam), .c (.n IntKind.i64 o.gen)], []⟩), (4, ⟨.box, [.c (.b false), .c (.ow 9 nilR), .c (.ow 55 nilR)], []⟩), (5, ⟨.box, [.c (.b true), .c (oS (x.1)), .c (oWrts (x.2.1))], []⟩), (6, ⟨.one, [.c (.n IntKind.i64 (x.2.2 : Int))], []⟩)]⟩)], [], [], []⟩) tab_ok mixed Tryz.func128 rfl Tryz.ntmps128 (rvs := [.cell 4 41]) Tryz.results128 rfl fun hl => ?_
  refine cast (show (∃ (b : Int), o.who = b ∧ ((0 : Int) ≤ b ∧ b ≤ (9 : Int)) ∧ (ByteArray.mk #[(117 : UInt8)]).size + (digS b).size ≤ (9223372036854775807 : Nat) ∧ ∃ (pre : List ByteArray × List Wrt × Nat → Prop), ∃ (μ : List ByteArray × List Wrt × Nat → Nat), ∃ (x0 : List ByteArray × List Wrt × Nat), (cnRs (typ dItem eItemS s) = cnRs (typ dItem eItemS s) ∧ (o.kind = o.kind ∧ o.who = o.who ∧ o.inn = o.inn ∧ o.code = o.code ∧ o.sec = o.sec ∧ o.fam = o.fam ∧ o.gen = o.gen) ∧ (false = false ∧ cnRs nilR = cnRs nilR ∧ cnRs nilR = cnRs nilR) ∧ (true = true ∧ cnRs (typ ByteArray.empty (fun (y : ByteArray) => [CV.s y]) [(ByteArray.mk #[(117 : UInt8)]) ++ digS b]) = cnRs (typ ByteArray.empty eS x0.1) ∧ cnRs nilR = cnRs (typ dWrt eWrtO x0.2.1)) ∧ (0 : Int) = (↑x0.2.2 : Int)) ∧ pre x0 ∧ ∀ (x : List ByteArray × List Wrt × Nat), pre x → (decide ((↑x.2.2 : Int) < (↑(List.length s) : Int)) = true → ((0 : Int) ≤ (↑x.2.2 : Int) ∧ (↑x.2.2 : Int) < (↑(List.length s) : Int)) ∧ ((0 : Int) ≤ (0 : Int) ∧ (0 : Int) < (↑(List.getD s (↑x.2.2 : Int).toNat dItem).key.size : Int)) ∧ ((byteAt (List.getD s (↑x.2.2 : Int).toNat dItem).key (Int.toNat (0 : Int)) == (102 : Int)) = true → ((0 : Int) ≤ (0 : Int) ∧ (0 : Int) < (↑(List.getD s (↑x.2.2 : Int).toNat dItem).val.length : Int)) ∧ (((List.getD s (↑x.2.2 : Int).toNat dItem).val.getD (Int.toNat (0 : Int)) (0 : Int) == o.who) = true → ((0 : Int) ≤ (2 : Int) ∧ (2 : Int) < (↑(List.getD s (↑x.2.2 : Int).toNat dItem).val.length : Int)) ∧ (((List.getD s (↑x.2.2 : Int).toNat dItem).val.getD (Int.toNat (2 : Int)) (0 : Int) == (1 : Int)) = true → (x.1.length + (1 : Nat)) * (16 : Nat) ≤ (140737488355328 : Nat) ∧ ((0 : Int) ≤ (0 : Int) ∧ (0 : Int) < (↑(List.getD s (↑x.2.2 : Int).toNat dItem).val.length : Int)) ∧ ((0 : Int) ≤ (1 : Int) ∧ (1 : Int) < (↑(List.getD s (↑x.2.2 : Int).toNat dItem).val.length : Int)) ∧ (x.2.1.length + (1 : Nat)) * (48 : Nat) ≤ (140737488355328 : Nat) ∧ ∃ (y : List ByteArray × List Wrt × Nat), (cnRs (typ dItem eItemS s) = cnRs (typ dItem eItemS s) ∧ (o.kind = o.kind ∧ o.who = o.who ∧ o.inn = o.inn ∧ o.code = o.code ∧ o.sec = o.sec ∧ o.fam = o.fam ∧ o.gen = o.gen) ∧ (false = false ∧ cnRs nilR = cnRs nilR ∧ cnRs nilR = cnRs nilR) ∧ (true = true ∧ cnRs (appR (typ ByteArray.empty eS x.1) (typ ByteArray.empty (fun (y : ByteArray) => [CV.s y]) [(List.getD s (↑x.2.2 : Int).toNat dItem).key])) = cnRs (typ ByteArray.empty eS y.1) ∧ cnRs (appR (typ dWrt eWrtO x.2.1) (raw [[CV.s (List.getD s (↑x.2.2 : Int).toNat dItem).key, CV.b false, CV.ow (3 : Nat) (typ (0 : Int) (fun (y : Int) => [CV.n IntKind.i64 y]) [(List.getD s (↑x.2.2 : Int).toNat dItem).val.getD (Int.toNat (0 : Int)) (0 : Int), (List.getD s (↑x.2.2 : Int).toNat dItem).val.getD (Int.toNat (1 : Int)) (0 : Int), (0 : Int)])]])) = cnRs (typ dWrt eWrtO y.2.1)) ∧ IntKind.i64.wrap ((↑x.2.2 : Int) + (1 : Int)) = (↑y.2.2 : Int)) ∧ pre y ∧ μ y < μ x) ∧ (((List.getD s (↑x.2.2 : Int).toNat dItem).val.getD (Int.toNat (2 : Int)) (0 : Int) == (1 : Int)) = false → ∃ (y : List ByteArray × List Wrt × Nat), (cnRs (typ dItem eItemS s) = cnRs (typ dItem eItemS s) ∧ (o.kind = o.kind ∧ o.who = o.who ∧ o.inn = o.inn ∧ o.code = o.code ∧ o.sec = o.sec ∧ o.fam = o.fam ∧ o.gen = o.gen) ∧ (false = false ∧ cnRs nilR = cnRs nilR ∧ cnRs nilR = cnRs nilR) ∧ (true = true ∧ cnRs (typ ByteArray.empty eS x.1) = cnRs (typ ByteArray.empty eS y.1) ∧ cnRs (typ dWrt eWrtO x.2.1) = cnRs (typ dWrt eWrtO y.2.1)) ∧ IntKind.i64.wrap ((↑x.2.2 : Int) + (1 : Int)) = (↑y.2.2 : Int)) ∧ pre y ∧ μ y < μ x)) ∧ (((List.getD s (↑x.2.2 : Int).toNat dItem).val.getD (Int.toNat (0 : Int)) (0 : Int) == o.who) = false → ∃ (y : List ByteArray × List Wrt × Nat), (cnRs (typ dItem eItemS s) = cnRs (typ dItem eItemS s) ∧ (o.kind = o.kind ∧ o.who = o.who ∧ o.inn = o.inn ∧ o.code = o.code ∧ o.sec = o.sec ∧ o.fam = o.fam ∧ o.gen = o.gen) ∧ (false = false ∧ cnRs nilR = cnRs nilR ∧ cnRs nilR = cnRs nilR) ∧ (true = true ∧ cnRs (typ ByteArray.empty eS x.1) = cnRs (typ ByteArray.empty eS y.1) ∧ cnRs (typ dWrt eWrtO x.2.1) = cnRs (typ dWrt eWrtO y.2.1)) ∧ IntKind.i64.wrap ((↑x.2.2 : Int) + (1 : Int)) = (↑y.2.2 : Int)) ∧ pre y ∧ μ y < μ x)) ∧ ((byteAt (List.getD s (↑x.2.2 : Int).toNat dItem).key (Int.toNat (0 : Int)) == (102 : Int)) = false → ∃ (y : List ByteArray × List Wrt × Nat), (cnRs (typ dItem eItemS s) = cnRs (typ dItem eItemS s) ∧ (o.kind = o.kind ∧ o.who = o.who ∧ o.inn = o.inn ∧ o.code = o.code ∧ o.sec = o.sec ∧ o.fam = o.fam ∧ o.gen = o.gen) ∧ (false = false ∧ cnRs nilR = cnRs nilR ∧ cnRs nilR = cnRs nilR) ∧ (true = true ∧ cnRs (typ ByteArray.empty eS x.1) = cnRs (typ ByteArray.empty eS y.1) ∧ cnRs (typ dWrt eWrtO x.2.1) = cnRs (typ dWrt eWrtO y.2.1)) ∧ IntKind.i64.wrap ((↑x.2.2 : Int) + (1 : Int)) = (↑y.2.2 : Int)) ∧ pre y ∧ μ y < μ x)) ∧ (decide ((↑x.2.2 : Int) < (↑(List.length s) : Int)) = false → true = (outP s o).ok ∧ cnRs (typ ByteArray.empty eS x.1) = cnRs (typ ByteArray.empty eS (outP s o).locks) ∧ cnRs (typ dWrt eWrtO x.2.1) = cnRs (typ dWrt eWrtO (outP s o).writes))) = _ by kernel_rfl) ?_
  have hn := op_nums hpre.2
  have hs := plc_small hpre.1
  have hx := hs.1
  refine ⟨o.who, rfl, by omega, show 1 + 1 ≤ 9223372036854775807 by omega, ?_⟩
  rw [show (⟨#[117]⟩ ++ digS o.who : ByteArray) = kd 117 o.who from rfl]
  refine ⟨fun x => x.2.2 ≤ s.length ∧ x.1 = kd 117 o.who :: ((s.take x.2.2).filter (outI o)).map (·.key) ∧ x.2.1 = ((s.take x.2.2).filter (outI o)).map outW ∧ x.1.length ≤ x.2.2 + 1 ∧ x.2.1.length ≤ x.2.2, fun x => s.length - x.2.2, ([kd 117 o.who], [], 0), by simp, by simp, fun x hp => ?_⟩
  obtain ⟨h1, h2, h3, h4, h5⟩ := hp
  refine ⟨fun hl0 => ?_, fun hge => ?_⟩
  · have hlt := ylt hl0
    clear hl0
    have hf := filter_succ (p := outI o) hlt (d := dItem)
    have hm : s.getD x.2.2 dItem ∈ s := by rw [getD_lt hlt]; exact List.getElem_mem hlt
    simp only [Int.toNat_natCast]
    generalize s.getD x.2.2 dItem = it at hf hm ⊢
    have hk := sto_key (plc_sto hpre.1) hm
    have hv := sto_val (plc_sto hpre.1) hm
    have hw := IntWalk.i64_in ((x.2.2 : Int) + 1) (by omega)
    have no : outI o it = false → ∃ (y : List ByteArray × List Wrt × Nat), y = (x.1, x.2.1, x.2.2 + 1) ∧ (y.2.2 ≤ s.length ∧ y.1 = kd 117 o.who :: ((s.take y.2.2).filter (outI o)).map (·.key) ∧ y.2.1 = ((s.take y.2.2).filter (outI o)).map outW ∧ y.1.length ≤ y.2.2 + 1 ∧ y.2.1.length ≤ y.2.2) ∧ s.length - y.2.2 < s.length - x.2.2 := fun hp => by
      refine ⟨_, rfl, ⟨by simp only; omega, ?_, ?_, by simp only; omega, by simp only; omega⟩, muN hlt⟩
      · simp only [hf, hp]; simpa using h2
      · simp only [hf, hp]; simpa using h3
    refine ⟨⟨by omega, by omega⟩, ⟨by omega, by omega⟩, fun a => ⟨⟨by omega, by omega⟩, fun b => ?_, fun b => ?_⟩, fun a => ?_⟩
    · have h3l : it.val.length = 3 := by
        have hform := plc_form hpre.1 hm
        simp only [beq_iff_eq, Int.toNat_zero] at a
        simp [formI, a] at hform
        omega
      refine ⟨⟨by omega, by omega⟩, fun c => ⟨by omega, ⟨by omega, by omega⟩, ⟨by omega, by omega⟩, by omega, (x.1 ++ [it.key], x.2.1 ++ [outW it], x.2.2 + 1), ?_, ⟨by simp only; omega, ?_, ?_, by simp; omega, by simp; omega⟩, muN hlt⟩, fun c => ?_⟩
      · simp [hw, outW]
      · simp only [hf]; simp_all [outI]
      · simp only [hf]; simp_all [outI]
      · obtain ⟨y, rfl, e2, e3⟩ := no (by simp_all [outI])
        exact ⟨_, by simp [hw], e2, e3⟩
    · obtain ⟨y, rfl, e2, e3⟩ := no (by simp_all [outI])
      exact ⟨_, by simp [hw], e2, e3⟩
    · obtain ⟨y, rfl, e2, e3⟩ := no (by simp_all [outI])
      exact ⟨_, by simp [hw], e2, e3⟩
  · have : x.2.2 = s.length := by have := nlt hge; omega
    rw [this, List.take_length] at h2 h3
    simp [outP, h2, h3]
def spec_l3Out_c : Con Tryz.prog := ⟨128, 2, [.lend, .lend], [], Sto × Opr, some fun b => plcB 2 b.1 = true ∧ opOk b.2 = true, fun b => [(0, kSto b.1), (1, kOp b.2)], fun b => [(2, kPlan (outP b.1 b.2))], [], fun b h => spec_l3Out_ok (b.1) (b.2) h⟩
theorem spec_l3May_ok (s : Sto) (o : Opr) (hpre : plcB 2 s = true ∧ opOk o = true) : FunOK Tryz.prog 99 2 [] [(0, kSto s), (1, kOp o)] (· = [(2, kPlan (mayP s o))]) := by
  refine fun_to (E := ⟨tab, ctOf [spec_l1Get_c, spec_l3No_c, spec_l3Digit_c, spec_SecSum_c, spec_l3Trade_c, spec_l3Next_c, spec_l3Out_c], 51, [], [(0, [2, 3, 4, 25, 26, 27, 28, 30, 33, 34, 35, 36, 37, 42, 47, 50]), (1, [2, 3, 4, 9, 25, 26, 27, 28, 30, 33, 34, 35, 36, 37, 42, 47, 50]), (2, [2, 3, 4, 9, 10, 25, 26, 27, 28, 30, 33, 34, 35, 36, 37, 42, 47, 50]), (3, [2, 3, 4, 5, 25, 26, 27, 28, 30, 33, 34, 35, 36, 37, 42, 47, 50]), (4, [3, 4, 5, 7, 25, 26, 27, 28, 30, 33, 34, 35, 36, 37, 42, 47, 50]), (5, [3, 4, 5, 22, 25, 26, 27, 28, 30, 33, 34, 35, 36, 37, 42, 47, 50]), (6, [4, 25, 26, 27, 28, 30, 33, 34, 35, 36, 37, 42, 47, 50]), (7, [4, 25, 26, 27, 28, 30, 33, 34, 35, 36, 37, 42, 47, 50]), (8, [2, 3, 4, 9, 25, 26, 27, 28, 30, 33, 34, 35, 36, 37, 38, 42, 47, 50]), (9, [4, 25, 26, 27, 28, 30, 33, 34, 35, 36, 37, 42, 47, 50]), (10, [2, 3, 4, 25, 26, 27, 28, 30, 33, 34, 35, 36, 37, 42, 43, 47, 50]), (11, [4, 25, 26, 27, 28, 30, 33, 34, 35, 36, 37, 42, 47, 50]), (12, [4, 25, 26, 27, 28, 30, 33, 34, 35, 36, 37, 42, 47, 50])], [], [], [], []⟩) tab_ok mixed Tryz.func99 rfl Tryz.ntmps99 (rvs := [.cell 4 41]) Tryz.results99 rfl fun hl => ?_
  refine cast (show (((o.kind == (2 : Int)) = true → ∃ (b : Int), o.code = b ∧ ((0 : Int) ≤ b ∧ b ≤ (9 : Int)) ∧ (ByteArray.mk #[(99 : UInt8)]).size + (digS b).size ≤ (9223372036854775807 : Nat) ∧ ∃ (b_1 : Sto × ByteArray), (cnRs (typ dItem eItemS s) = cnRs (typ dItem eItemS b_1.1) ∧ (ByteArray.mk #[(99 : UInt8)]) ++ digS b = b_1.2) ∧ small b_1.1 ∧ ((getS b_1.1 b_1.2).isSome = true → ∃ (b_2 : List ByteArray), cnRs (frozenRs (typ ByteArray.empty (fun (y : ByteArray) => [CV.s y]) [(ByteArray.mk #[(99 : UInt8)]) ++ digS b])) = cnRs (typ ByteArray.empty eS b_2) ∧ b_2.length ≤ (10 : Nat) ∧ ((True ∧ (∀ (k : Nat), True ∧ True) ∧ (∀ (k : Nat), True ∧ True ∧ (∀ (k : Nat), True ∧ True) ∧ True) ∧ True) ∧ True) ∧ (noP b_2).ok = (mayP s o).ok ∧ cnRs (typ ByteArray.empty eS (noP b_2).locks) = cnRs (typ ByteArray.empty eS (mayP s o).locks) ∧ cnRs (typ dWrt eWrtO (noP b_2).writes) = cnRs (typ dWrt eWrtO (mayP s o).writes)) ∧ ((getS b_1.1 b_1.2).isSome = false → ∃ (b_2 : Int), o.sec = b_2 ∧ true = (mayP s o).ok ∧ cnRs (typ ByteArray.empty (fun (y : ByteArray) => [CV.s y]) [(ByteArray.mk #[(99 : UInt8)]) ++ digS b]) = cnRs (typ ByteArray.empty eS (mayP s o).locks) ∧ cnRs (raw [[CV.s ((ByteArray.mk #[(99 : UInt8)]) ++ digS b), CV.b false, CV.ow (3 : Nat) (typ (0 : Int) (fun (y : Int) => [CV.n IntKind.i64 y]) [o.who, secB b_2])]]) = cnRs (typ dWrt eWrtO (mayP s o).writes))) ∧ ((o.kind == (2 : Int)) = false → ((o.kind == (3 : Int)) = true → ∃ (b : Sto × Opr), (cnRs (typ dItem eItemS s) = cnRs (typ dItem eItemS b.1) ∧ o.kind = b.2.kind ∧ o.who = b.2.who ∧ o.inn = b.2.inn ∧ o.code = b.2.code ∧ o.sec = b.2.sec ∧ o.fam = b.2.fam ∧ o.gen = b.2.gen) ∧ (plcB (2 : Int) b.1 = true ∧ opOk b.2 = true) ∧ (tradeP b.1 b.2).ok = (mayP s o).ok ∧ cnRs (typ ByteArray.empty eS (tradeP b.1 b.2).locks) = cnRs (typ ByteArray.empty eS (mayP s o).locks) ∧ cnRs (typ dWrt eWrtO (tradeP b.1 b.2).writes) = cnRs (typ dWrt eWrtO (mayP s o).writes)) ∧ ((o.kind == (3 : Int)) = false → ((o.kind == (4 : Int)) = true → ∃ (b : Sto × Opr), (cnRs (typ dItem eItemS s) = cnRs (typ dItem eItemS b.1) ∧ o.kind = b.2.kind ∧ o.who = b.2.who ∧ o.inn = b.2.inn ∧ o.code = b.2.code ∧ o.sec = b.2.sec ∧ o.fam = b.2.fam ∧ o.gen = b.2.gen) ∧ (plcB (2 : Int) b.1 = true ∧ opOk b.2 = true) ∧ (nextP b.1 b.2).ok = (mayP s o).ok ∧ cnRs (typ ByteArray.empty eS (nextP b.1 b.2).locks) = cnRs (typ ByteArray.empty eS (mayP s o).locks) ∧ cnRs (typ dWrt eWrtO (nextP b.1 b.2).writes) = cnRs (typ dWrt eWrtO (mayP s o).writes)) ∧ ((o.kind == (4 : Int)) = false → ∃ (b : Sto × Opr), (cnRs (typ dItem eItemS s) = cnRs (typ dItem eItemS b.1) ∧ o.kind = b.2.kind ∧ o.who = b.2.who ∧ o.inn = b.2.inn ∧ o.code = b.2.code ∧ o.sec = b.2.sec ∧ o.fam = b.2.fam ∧ o.gen = b.2.gen) ∧ (plcB (2 : Int) b.1 = true ∧ opOk b.2 = true) ∧ (outP b.1 b.2).ok = (mayP s o).ok ∧ cnRs (typ ByteArray.empty eS (outP b.1 b.2).locks) = cnRs (typ ByteArray.empty eS (mayP s o).locks) ∧ cnRs (typ dWrt eWrtO (outP b.1 b.2).writes) = cnRs (typ dWrt eWrtO (mayP s o).writes))))) = _ by kernel_rfl) ?_
  have hn := op_nums hpre.2
  have hs := plc_small hpre.1
  refine ⟨fun h2 => ⟨o.code, rfl, by omega, show 1 + 1 ≤ 9223372036854775807 by omega, (s, kd 99 o.code), ⟨rfl, rfl⟩, hs, ?_⟩, fun h2 => ⟨fun h3 => ⟨(s, o), ⟨rfl, rfl, rfl, rfl, rfl, rfl, rfl, rfl⟩, hpre, ?_⟩, fun h3 => ⟨fun h4 => ⟨(s, o), ⟨rfl, rfl, rfl, rfl, rfl, rfl, rfl, rfl⟩, hpre, ?_⟩, fun h4 => ⟨(s, o), ⟨rfl, rfl, rfl, rfl, rfl, rfl, rfl, rfl⟩, hpre, ?_⟩⟩⟩⟩
  · rw [show (⟨#[99]⟩ ++ digS o.code : ByteArray) = kd 99 o.code from rfl]
    simp only [beq_iff_eq] at h2
    simp only [mayP, h2, if_true, hasV]
    rcases opt_cases (getS s (kd 99 o.code)) with hk | ⟨v, hk⟩ <;> simp [noP, hk]
  all_goals simp_all [mayP]
def spec_l3May_c : Con Tryz.prog := ⟨99, 2, [.lend, .lend], [], Sto × Opr, some fun b => plcB 2 b.1 = true ∧ opOk b.2 = true, fun b => [(0, kSto b.1), (1, kOp b.2)], fun b => [(2, kPlan (mayP b.1 b.2))], [], fun b h => spec_l3May_ok (b.1) (b.2) h⟩
theorem spec_l3Form_ok (p : Int) (s : Sto) (hpre : stoB s = true) : FunOK Tryz.prog 94 2 [] [(0, kI p), (1, kSto s)] (· = [(2, kB (formB p s))]) := by
  refine fun_to (E := ⟨tab, ctOf [spec_l1In_c], 110, [], [(0, [0, 3]), (1, [0, 3, 5]), (2, [0, 3, 5, 15]), (3, [0, 3, 5]), (4, [0, 3, 5, 6]), (5, [0, 3, 5, 6, 7]), (6, [0, 3, 5, 6, 7, 8]), (7, [0, 3, 5, 6, 7, 8, 9]), (8, [0, 3, 5, 6, 7, 8, 9, 10]), (9, [0, 3, 5, 6, 7, 10]), (10, [0, 3, 5, 109]), (11, [4]), (12, [4])], [(0, ⟨Nat, fun x => [(0, ⟨.one, [.c (.n IntKind.i64 p)], []⟩), (3, ⟨.box, [.c (.sh 75 (typ dItem eItemS s))], []⟩), (5, ⟨.one, [.c (.n IntKind.i64 (x : Int))], []⟩)]⟩)], [], [(8, ⟨Nat × ByteArray × List Int × Int × Int × Int × Bool, fun x => [(0, ⟨.one, [.c (.n IntKind.i64 p)], []⟩), (3, ⟨.box, [.c (.sh 75 (typ dItem eItemS s))], []⟩), (5, ⟨.one, [.c (.n IntKind.i64 (x.1 : Int))], []⟩), (6, ⟨.box, [.c (.s (x.2.1)), .c (sI (x.2.2.1))], []⟩), (7, ⟨.one, [.c (.n IntKind.u8 (x.2.2.2.1))], []⟩), (8, ⟨.one, [.c (.n IntKind.i64 (x.2.2.2.2.1))], []⟩), (9, ⟨.one, [.c (.n IntKind.i64 (x.2.2.2.2.2.1))], []⟩), (10, ⟨.one, [.c (.b (x.2.2.2.2.2.2))], []⟩)]⟩), (9, ⟨Nat × ByteArray × List Int × Int × Bool, fun x => [(0, ⟨.one, [.c (.n IntKind.i64 p)], []⟩), (3, ⟨.box, [.c (.sh 75 (typ dItem eItemS s))], []⟩), (5, ⟨.one, [.c (.n IntKind.i64 (x.1 : Int))], []⟩), (6, ⟨.box, [.c (.s (x.2.1)), .c (sI (x.2.2.1))], []⟩), (7, ⟨.one, [.c (.n IntKind.u8 (x.2.2.2.1))], []⟩), (10, ⟨.one, [.c (.b (x.2.2.2.2))], []⟩)]⟩), (10, ⟨Nat × Bool, fun x => [(0, ⟨.one, [.c (.n IntKind.i64 p)], []⟩), (3, ⟨.box, [.c (.sh 75 (typ dItem eItemS s))], []⟩), (5, ⟨.one, [.c (.n IntKind.i64 (x.1 : Int))], []⟩), (109, ⟨.one, [.c (.b (x.2))], []⟩)]⟩)], []⟩) tab_ok mixed Tryz.func94 rfl Tryz.ntmps94 (rvs := [.tmp 4]) Tryz.results94 rfl fun hl => ?_
  refine cast (show (∃ (pre : Nat → Prop), ∃ (μ : Nat → Nat), ∃ (x0 : Nat), (p = p ∧ cnRs (typ dItem eItemS s) = cnRs (typ dItem eItemS s) ∧ (0 : Int) = (↑x0 : Int)) ∧ pre x0 ∧ ∀ (x : Nat), pre x → (decide ((↑x : Int) < (↑(List.length s) : Int)) = true → ((0 : Int) ≤ (↑x : Int) ∧ (↑x : Int) < (↑(List.length s) : Int)) ∧ ((0 : Int) ≤ (0 : Int) ∧ (0 : Int) < (↑(List.getD s (↑x : Int).toNat dItem).key.size : Int)) ∧ ((0 : Int) ≤ (0 : Int) ∧ (0 : Int) < (↑(List.getD s (↑x : Int).toNat dItem).val.length : Int)) ∧ ∃ (post : Nat × ByteArray × List Int × Int × Int × Int × Bool → Prop), (((p == (1 : Int)) = true → ((byteAt (List.getD s (↑x : Int).toNat dItem).key (Int.toNat (0 : Int)) == (115 : Int)) = true → (((↑(List.getD s (↑x : Int).toNat dItem).val.length : Int) == (1 : Int)) = true → (decide ((List.getD s (↑x : Int).toNat dItem).val.getD (Int.toNat (0 : Int)) (0 : Int) ≤ (9 : Int)) = false → ((p == (3 : Int)) = true → ((byteAt (List.getD s (↑x : Int).toNat dItem).key (Int.toNat (0 : Int)) == (97 : Int)) = true → ∃ (x_1 : Nat × ByteArray × List Int × Int × Int × Int × Bool), (p = p ∧ cnRs (typ dItem eItemS s) = cnRs (typ dItem eItemS s) ∧ (↑x : Int) = (↑x_1.1 : Int) ∧ ((List.getD s (↑x : Int).toNat dItem).key = x_1.2.1 ∧ cnRs (typ (0 : Int) eI (List.getD s (↑x : Int).toNat dItem).val) = cnRs (typ (0 : Int) eI x_1.2.2.1)) ∧ byteAt (List.getD s (↑x : Int).toNat dItem).key (Int.toNat (0 : Int)) = x_1.2.2.2.1 ∧ (↑(List.getD s (↑x : Int).toNat dItem).val.length : Int) = x_1.2.2.2.2.1 ∧ (List.getD s (↑x : Int).toNat dItem).val.getD (Int.toNat (0 : Int)) (0 : Int) = x_1.2.2.2.2.2.1 ∧ ((↑(List.getD s (↑x : Int).toNat dItem).val.length : Int) == (1 : Int)) = x_1.2.2.2.2.2.2) ∧ post x_1) ∧ ((byteAt (List.getD s (↑x : Int).toNat dItem).key (Int.toNat (0 : Int)) == (97 : Int)) = false → ∃ (x_1 : Nat × ByteArray × List Int × Int × Int × Int × Bool), (p = p ∧ cnRs (typ dItem eItemS s) = cnRs (typ dItem eItemS s) ∧ (↑x : Int) = (↑x_1.1 : Int) ∧ ((List.getD s (↑x : Int).toNat dItem).key = x_1.2.1 ∧ cnRs (typ (0 : Int) eI (List.getD s (↑x : Int).toNat dItem).val) = cnRs (typ (0 : Int) eI x_1.2.2.1)) ∧ byteAt (List.getD s (↑x : Int).toNat dItem).key (Int.toNat (0 : Int)) = x_1.2.2.2.1 ∧ (↑(List.getD s (↑x : Int).toNat dItem).val.length : Int) = x_1.2.2.2.2.1 ∧ (List.getD s (↑x : Int).toNat dItem).val.getD (Int.toNat (0 : Int)) (0 : Int) = x_1.2.2.2.2.2.1 ∧ false = x_1.2.2.2.2.2.2) ∧ post x_1)) ∧ ((p == (3 : Int)) = false → ∃ (x_1 : Nat × ByteArray × List Int × Int × Int × Int × Bool), (p = p ∧ cnRs (typ dItem eItemS s) = cnRs (typ dItem eItemS s) ∧ (↑x : Int) = (↑x_1.1 : Int) ∧ ((List.getD s (↑x : Int).toNat dItem).key = x_1.2.1 ∧ cnRs (typ (0 : Int) eI (List.getD s (↑x : Int).toNat dItem).val) = cnRs (typ (0 : Int) eI x_1.2.2.1)) ∧ byteAt (List.getD s (↑x : Int).toNat dItem).key (Int.toNat (0 : Int)) = x_1.2.2.2.1 ∧ (↑(List.getD s (↑x : Int).toNat dItem).val.length : Int) = x_1.2.2.2.2.1 ∧ (List.getD s (↑x : Int).toNat dItem).val.getD (Int.toNat (0 : Int)) (0 : Int) = x_1.2.2.2.2.2.1 ∧ false = x_1.2.2.2.2.2.2) ∧ post x_1)) ∧ (decide ((List.getD s (↑x : Int).toNat dItem).val.getD (Int.toNat (0 : Int)) (0 : Int) ≤ (9 : Int)) = true → ∃ (x_1 : Nat × ByteArray × List Int × Int × Int × Int × Bool), (p = p ∧ cnRs (typ dItem eItemS s) = cnRs (typ dItem eItemS s) ∧ (↑x : Int) = (↑x_1.1 : Int) ∧ ((List.getD s (↑x : Int).toNat dItem).key = x_1.2.1 ∧ cnRs (typ (0 : Int) eI (List.getD s (↑x : Int).toNat dItem).val) = cnRs (typ (0 : Int) eI x_1.2.2.1)) ∧ byteAt (List.getD s (↑x : Int).toNat dItem).key (Int.toNat (0 : Int)) = x_1.2.2.2.1 ∧ (↑(List.getD s (↑x : Int).toNat dItem).val.length : Int) = x_1.2.2.2.2.1 ∧ (List.getD s (↑x : Int).toNat dItem).val.getD (Int.toNat (0 : Int)) (0 : Int) = x_1.2.2.2.2.2.1 ∧ true = x_1.2.2.2.2.2.2) ∧ post x_1)) ∧ (((↑(List.getD s (↑x : Int).toNat dItem).val.length : Int) == (1 : Int)) = false → ((p == (3 : Int)) = true → ((byteAt (List.getD s (↑x : Int).toNat dItem).key (Int.toNat (0 : Int)) == (97 : Int)) = true → ∃ (x_1 : Nat × ByteArray × List Int × Int × Int × Int × Bool), (p = p ∧ cnRs (typ dItem eItemS s) = cnRs (typ dItem eItemS s) ∧ (↑x : Int) = (↑x_1.1 : Int) ∧ ((List.getD s (↑x : Int).toNat dItem).key = x_1.2.1 ∧ cnRs (typ (0 : Int) eI (List.getD s (↑x : Int).toNat dItem).val) = cnRs (typ (0 : Int) eI x_1.2.2.1)) ∧ byteAt (List.getD s (↑x : Int).toNat dItem).key (Int.toNat (0 : Int)) = x_1.2.2.2.1 ∧ (↑(List.getD s (↑x : Int).toNat dItem).val.length : Int) = x_1.2.2.2.2.1 ∧ (List.getD s (↑x : Int).toNat dItem).val.getD (Int.toNat (0 : Int)) (0 : Int) = x_1.2.2.2.2.2.1 ∧ ((↑(List.getD s (↑x : Int).toNat dItem).val.length : Int) == (1 : Int)) = x_1.2.2.2.2.2.2) ∧ post x_1) ∧ ((byteAt (List.getD s (↑x : Int).toNat dItem).key (Int.toNat (0 : Int)) == (97 : Int)) = false → ∃ (x_1 : Nat × ByteArray × List Int × Int × Int × Int × Bool), (p = p ∧ cnRs (typ dItem eItemS s) = cnRs (typ dItem eItemS s) ∧ (↑x : Int) = (↑x_1.1 : Int) ∧ ((List.getD s (↑x : Int).toNat dItem).key = x_1.2.1 ∧ cnRs (typ (0 : Int) eI (List.getD s (↑x : Int).toNat dItem).val) = cnRs (typ (0 : Int) eI x_1.2.2.1)) ∧ byteAt (List.getD s (↑x : Int).toNat dItem).key (Int.toNat (0 : Int)) = x_1.2.2.2.1 ∧ (↑(List.getD s (↑x : Int).toNat dItem).val.length : Int) = x_1.2.2.2.2.1 ∧ (List.getD s (↑x : Int).toNat dItem).val.getD (Int.toNat (0 : Int)) (0 : Int) = x_1.2.2.2.2.2.1 ∧ false = x_1.2.2.2.2.2.2) ∧ post x_1)) ∧ ((p == (3 : Int)) = false → ∃ (x_1 : Nat × ByteArray × List Int × Int × Int × Int × Bool), (p = p ∧ cnRs (typ dItem eItemS s) = cnRs (typ dItem eItemS s) ∧ (↑x : Int) = (↑x_1.1 : Int) ∧ ((List.getD s (↑x : Int).toNat dItem).key = x_1.2.1 ∧ cnRs (typ (0 : Int) eI (List.getD s (↑x : Int).toNat dItem).val) = cnRs (typ (0 : Int) eI x_1.2.2.1)) ∧ byteAt (List.getD s (↑x : Int).toNat dItem).key (Int.toNat (0 : Int)) = x_1.2.2.2.1 ∧ (↑(List.getD s (↑x : Int).toNat dItem).val.length : Int) = x_1.2.2.2.2.1 ∧ (List.getD s (↑x : Int).toNat dItem).val.getD (Int.toNat (0 : Int)) (0 : Int) = x_1.2.2.2.2.2.1 ∧ false = x_1.2.2.2.2.2.2) ∧ post x_1))) ∧ ((byteAt (List.getD s (↑x : Int).toNat dItem).key (Int.toNat (0 : Int)) == (115 : Int)) = false → ((p == (3 : Int)) = true → ((byteAt (List.getD s (↑x : Int).toNat dItem).key (Int.toNat (0 : Int)) == (97 : Int)) = true → ∃ (x_1 : Nat × ByteArray × List Int × Int × Int × Int × Bool), (p = p ∧ cnRs (typ dItem eItemS s) = cnRs (typ dItem eItemS s) ∧ (↑x : Int) = (↑x_1.1 : Int) ∧ ((List.getD s (↑x : Int).toNat dItem).key = x_1.2.1 ∧ cnRs (typ (0 : Int) eI (List.getD s (↑x : Int).toNat dItem).val) = cnRs (typ (0 : Int) eI x_1.2.2.1)) ∧ byteAt (List.getD s (↑x : Int).toNat dItem).key (Int.toNat (0 : Int)) = x_1.2.2.2.1 ∧ (↑(List.getD s (↑x : Int).toNat dItem).val.length : Int) = x_1.2.2.2.2.1 ∧ (List.getD s (↑x : Int).toNat dItem).val.getD (Int.toNat (0 : Int)) (0 : Int) = x_1.2.2.2.2.2.1 ∧ ((↑(List.getD s (↑x : Int).toNat dItem).val.length : Int) == (1 : Int)) = x_1.2.2.2.2.2.2) ∧ post x_1) ∧ ((byteAt (List.getD s (↑x : Int).toNat dItem).key (Int.toNat (0 : Int)) == (97 : Int)) = false → ∃ (x_1 : Nat × ByteArray × List Int × Int × Int × Int × Bool), (p = p ∧ cnRs (typ dItem eItemS s) = cnRs (typ dItem eItemS s) ∧ (↑x : Int) = (↑x_1.1 : Int) ∧ ((List.getD s (↑x : Int).toNat dItem).key = x_1.2.1 ∧ cnRs (typ (0 : Int) eI (List.getD s (↑x : Int).toNat dItem).val) = cnRs (typ (0 : Int) eI x_1.2.2.1)) ∧ byteAt (List.getD s (↑x : Int).toNat dItem).key (Int.toNat (0 : Int)) = x_1.2.2.2.1 ∧ (↑(List.getD s (↑x : Int).toNat dItem).val.length : Int) = x_1.2.2.2.2.1 ∧ (List.getD s (↑x : Int).toNat dItem).val.getD (Int.toNat (0 : Int)) (0 : Int) = x_1.2.2.2.2.2.1 ∧ false = x_1.2.2.2.2.2.2) ∧ post x_1)) ∧ ((p == (3 : Int)) = false → ∃ (x_1 : Nat × ByteArray × List Int × Int × Int × Int × Bool), (p = p ∧ cnRs (typ dItem eItemS s) = cnRs (typ dItem eItemS s) ∧ (↑x : Int) = (↑x_1.1 : Int) ∧ ((List.getD s (↑x : Int).toNat dItem).key = x_1.2.1 ∧ cnRs (typ (0 : Int) eI (List.getD s (↑x : Int).toNat dItem).val) = cnRs (typ (0 : Int) eI x_1.2.2.1)) ∧ byteAt (List.getD s (↑x : Int).toNat dItem).key (Int.toNat (0 : Int)) = x_1.2.2.2.1 ∧ (↑(List.getD s (↑x : Int).toNat dItem).val.length : Int) = x_1.2.2.2.2.1 ∧ (List.getD s (↑x : Int).toNat dItem).val.getD (Int.toNat (0 : Int)) (0 : Int) = x_1.2.2.2.2.2.1 ∧ false = x_1.2.2.2.2.2.2) ∧ post x_1))) ∧ ((p == (1 : Int)) = false → ((p == (3 : Int)) = true → ((byteAt (List.getD s (↑x : Int).toNat dItem).key (Int.toNat (0 : Int)) == (97 : Int)) = true → ∃ (x_1 : Nat × ByteArray × List Int × Int × Int × Int × Bool), (p = p ∧ cnRs (typ dItem eItemS s) = cnRs (typ dItem eItemS s) ∧ (↑x : Int) = (↑x_1.1 : Int) ∧ ((List.getD s (↑x : Int).toNat dItem).key = x_1.2.1 ∧ cnRs (typ (0 : Int) eI (List.getD s (↑x : Int).toNat dItem).val) = cnRs (typ (0 : Int) eI x_1.2.2.1)) ∧ byteAt (List.getD s (↑x : Int).toNat dItem).key (Int.toNat (0 : Int)) = x_1.2.2.2.1 ∧ (↑(List.getD s (↑x : Int).toNat dItem).val.length : Int) = x_1.2.2.2.2.1 ∧ (List.getD s (↑x : Int).toNat dItem).val.getD (Int.toNat (0 : Int)) (0 : Int) = x_1.2.2.2.2.2.1 ∧ ((↑(List.getD s (↑x : Int).toNat dItem).val.length : Int) == (1 : Int)) = x_1.2.2.2.2.2.2) ∧ post x_1) ∧ ((byteAt (List.getD s (↑x : Int).toNat dItem).key (Int.toNat (0 : Int)) == (97 : Int)) = false → ∃ (x_1 : Nat × ByteArray × List Int × Int × Int × Int × Bool), (p = p ∧ cnRs (typ dItem eItemS s) = cnRs (typ dItem eItemS s) ∧ (↑x : Int) = (↑x_1.1 : Int) ∧ ((List.getD s (↑x : Int).toNat dItem).key = x_1.2.1 ∧ cnRs (typ (0 : Int) eI (List.getD s (↑x : Int).toNat dItem).val) = cnRs (typ (0 : Int) eI x_1.2.2.1)) ∧ byteAt (List.getD s (↑x : Int).toNat dItem).key (Int.toNat (0 : Int)) = x_1.2.2.2.1 ∧ (↑(List.getD s (↑x : Int).toNat dItem).val.length : Int) = x_1.2.2.2.2.1 ∧ (List.getD s (↑x : Int).toNat dItem).val.getD (Int.toNat (0 : Int)) (0 : Int) = x_1.2.2.2.2.2.1 ∧ false = x_1.2.2.2.2.2.2) ∧ post x_1)) ∧ ((p == (3 : Int)) = false → ∃ (x_1 : Nat × ByteArray × List Int × Int × Int × Int × Bool), (p = p ∧ cnRs (typ dItem eItemS s) = cnRs (typ dItem eItemS s) ∧ (↑x : Int) = (↑x_1.1 : Int) ∧ ((List.getD s (↑x : Int).toNat dItem).key = x_1.2.1 ∧ cnRs (typ (0 : Int) eI (List.getD s (↑x : Int).toNat dItem).val) = cnRs (typ (0 : Int) eI x_1.2.2.1)) ∧ byteAt (List.getD s (↑x : Int).toNat dItem).key (Int.toNat (0 : Int)) = x_1.2.2.2.1 ∧ (↑(List.getD s (↑x : Int).toNat dItem).val.length : Int) = x_1.2.2.2.2.1 ∧ (List.getD s (↑x : Int).toNat dItem).val.getD (Int.toNat (0 : Int)) (0 : Int) = x_1.2.2.2.2.2.1 ∧ false = x_1.2.2.2.2.2.2) ∧ post x_1))) ∧ ∀ (x_1 : Nat × ByteArray × List Int × Int × Int × Int × Bool), post x_1 → ∃ (post : Nat × ByteArray × List Int × Int × Bool → Prop), ((x_1.2.2.2.2.2.2 = false → ((p == (2 : Int)) = true → (decide (x_1.2.2.2.2.2.1 ≤ (9 : Int)) = true → ((x_1.2.2.2.1 == (99 : Int)) = true → ((x_1.2.2.2.2.1 == (2 : Int)) = false → ((x_1.2.2.2.1 == (102 : Int)) = true → ((x_1.2.2.2.2.1 == (3 : Int)) = true → ((0 : Int) ≤ (1 : Int) ∧ (1 : Int) < (↑x_1.2.2.1.length : Int)) ∧ ∃ (b : Int × Int × Int), (x_1.2.2.1.getD (Int.toNat (1 : Int)) (0 : Int) = b.1 ∧ (1 : Int) = b.2.1 ∧ (99 : Int) = b.2.2) ∧ (inR b.1 b.2.1 b.2.2 = true → ((0 : Int) ≤ (2 : Int) ∧ (2 : Int) < (↑x_1.2.2.1.length : Int)) ∧ ∃ (x : Nat × ByteArray × List Int × Int × Bool), (p = p ∧ cnRs (typ dItem eItemS s) = cnRs (typ dItem eItemS s) ∧ (↑x_1.1 : Int) = (↑x.1 : Int) ∧ (x_1.2.1 = x.2.1 ∧ cnRs (typ (0 : Int) eI x_1.2.2.1) = cnRs (typ (0 : Int) eI x.2.2.1)) ∧ x_1.2.2.2.1 = x.2.2.2.1 ∧ decide (x_1.2.2.1.getD (Int.toNat (2 : Int)) (0 : Int) ≤ (1 : Int)) = x.2.2.2.2) ∧ post x) ∧ (inR b.1 b.2.1 b.2.2 = false → ∃ (x : Nat × ByteArray × List Int × Int × Bool), (p = p ∧ cnRs (typ dItem eItemS s) = cnRs (typ dItem eItemS s) ∧ (↑x_1.1 : Int) = (↑x.1 : Int) ∧ (x_1.2.1 = x.2.1 ∧ cnRs (typ (0 : Int) eI x_1.2.2.1) = cnRs (typ (0 : Int) eI x.2.2.1)) ∧ x_1.2.2.2.1 = x.2.2.2.1 ∧ false = x.2.2.2.2) ∧ post x)) ∧ ((x_1.2.2.2.2.1 == (3 : Int)) = false → ∃ (x : Nat × ByteArray × List Int × Int × Bool), (p = p ∧ cnRs (typ dItem eItemS s) = cnRs (typ dItem eItemS s) ∧ (↑x_1.1 : Int) = (↑x.1 : Int) ∧ (x_1.2.1 = x.2.1 ∧ cnRs (typ (0 : Int) eI x_1.2.2.1) = cnRs (typ (0 : Int) eI x.2.2.1)) ∧ x_1.2.2.2.1 = x.2.2.2.1 ∧ false = x.2.2.2.2) ∧ post x)) ∧ ((x_1.2.2.2.1 == (102 : Int)) = false → ∃ (x : Nat × ByteArray × List Int × Int × Bool), (p = p ∧ cnRs (typ dItem eItemS s) = cnRs (typ dItem eItemS s) ∧ (↑x_1.1 : Int) = (↑x.1 : Int) ∧ (x_1.2.1 = x.2.1 ∧ cnRs (typ (0 : Int) eI x_1.2.2.1) = cnRs (typ (0 : Int) eI x.2.2.1)) ∧ x_1.2.2.2.1 = x.2.2.2.1 ∧ false = x.2.2.2.2) ∧ post x)) ∧ ((x_1.2.2.2.2.1 == (2 : Int)) = true → ∃ (x : Nat × ByteArray × List Int × Int × Bool), (p = p ∧ cnRs (typ dItem eItemS s) = cnRs (typ dItem eItemS s) ∧ (↑x_1.1 : Int) = (↑x.1 : Int) ∧ (x_1.2.1 = x.2.1 ∧ cnRs (typ (0 : Int) eI x_1.2.2.1) = cnRs (typ (0 : Int) eI x.2.2.1)) ∧ x_1.2.2.2.1 = x.2.2.2.1 ∧ true = x.2.2.2.2) ∧ post x)) ∧ ((x_1.2.2.2.1 == (99 : Int)) = false → ((x_1.2.2.2.1 == (102 : Int)) = true → ((x_1.2.2.2.2.1 == (3 : Int)) = true → ((0 : Int) ≤ (1 : Int) ∧ (1 : Int) < (↑x_1.2.2.1.length : Int)) ∧ ∃ (b : Int × Int × Int), (x_1.2.2.1.getD (Int.toNat (1 : Int)) (0 : Int) = b.1 ∧ (1 : Int) = b.2.1 ∧ (99 : Int) = b.2.2) ∧ (inR b.1 b.2.1 b.2.2 = true → ((0 : Int) ≤ (2 : Int) ∧ (2 : Int) < (↑x_1.2.2.1.length : Int)) ∧ ∃ (x : Nat × ByteArray × List Int × Int × Bool), (p = p ∧ cnRs (typ dItem eItemS s) = cnRs (typ dItem eItemS s) ∧ (↑x_1.1 : Int) = (↑x.1 : Int) ∧ (x_1.2.1 = x.2.1 ∧ cnRs (typ (0 : Int) eI x_1.2.2.1) = cnRs (typ (0 : Int) eI x.2.2.1)) ∧ x_1.2.2.2.1 = x.2.2.2.1 ∧ decide (x_1.2.2.1.getD (Int.toNat (2 : Int)) (0 : Int) ≤ (1 : Int)) = x.2.2.2.2) ∧ post x) ∧ (inR b.1 b.2.1 b.2.2 = false → ∃ (x : Nat × ByteArray × List Int × Int × Bool), (p = p ∧ cnRs (typ dItem eItemS s) = cnRs (typ dItem eItemS s) ∧ (↑x_1.1 : Int) = (↑x.1 : Int) ∧ (x_1.2.1 = x.2.1 ∧ cnRs (typ (0 : Int) eI x_1.2.2.1) = cnRs (typ (0 : Int) eI x.2.2.1)) ∧ x_1.2.2.2.1 = x.2.2.2.1 ∧ false = x.2.2.2.2) ∧ post x)) ∧ ((x_1.2.2.2.2.1 == (3 : Int)) = false → ∃ (x : Nat × ByteArray × List Int × Int × Bool), (p = p ∧ cnRs (typ dItem eItemS s) = cnRs (typ dItem eItemS s) ∧ (↑x_1.1 : Int) = (↑x.1 : Int) ∧ (x_1.2.1 = x.2.1 ∧ cnRs (typ (0 : Int) eI x_1.2.2.1) = cnRs (typ (0 : Int) eI x.2.2.1)) ∧ x_1.2.2.2.1 = x.2.2.2.1 ∧ false = x.2.2.2.2) ∧ post x)) ∧ ((x_1.2.2.2.1 == (102 : Int)) = false → ∃ (x : Nat × ByteArray × List Int × Int × Bool), (p = p ∧ cnRs (typ dItem eItemS s) = cnRs (typ dItem eItemS s) ∧ (↑x_1.1 : Int) = (↑x.1 : Int) ∧ (x_1.2.1 = x.2.1 ∧ cnRs (typ (0 : Int) eI x_1.2.2.1) = cnRs (typ (0 : Int) eI x.2.2.1)) ∧ x_1.2.2.2.1 = x.2.2.2.1 ∧ false = x.2.2.2.2) ∧ post x))) ∧ (decide (x_1.2.2.2.2.2.1 ≤ (9 : Int)) = false → ∃ (x : Nat × ByteArray × List Int × Int × Bool), (p = p ∧ cnRs (typ dItem eItemS s) = cnRs (typ dItem eItemS s) ∧ (↑x_1.1 : Int) = (↑x.1 : Int) ∧ (x_1.2.1 = x.2.1 ∧ cnRs (typ (0 : Int) eI x_1.2.2.1) = cnRs (typ (0 : Int) eI x.2.2.1)) ∧ x_1.2.2.2.1 = x.2.2.2.1 ∧ false = x.2.2.2.2) ∧ post x)) ∧ ((p == (2 : Int)) = false → ∃ (x : Nat × ByteArray × List Int × Int × Bool), (p = p ∧ cnRs (typ dItem eItemS s) = cnRs (typ dItem eItemS s) ∧ (↑x_1.1 : Int) = (↑x.1 : Int) ∧ (x_1.2.1 = x.2.1 ∧ cnRs (typ (0 : Int) eI x_1.2.2.1) = cnRs (typ (0 : Int) eI x.2.2.1)) ∧ x_1.2.2.2.1 = x.2.2.2.1 ∧ false = x.2.2.2.2) ∧ post x)) ∧ (x_1.2.2.2.2.2.2 = true → ∃ (x : Nat × ByteArray × List Int × Int × Bool), (p = p ∧ cnRs (typ dItem eItemS s) = cnRs (typ dItem eItemS s) ∧ (↑x_1.1 : Int) = (↑x.1 : Int) ∧ (x_1.2.1 = x.2.1 ∧ cnRs (typ (0 : Int) eI x_1.2.2.1) = cnRs (typ (0 : Int) eI x.2.2.1)) ∧ x_1.2.2.2.1 = x.2.2.2.1 ∧ true = x.2.2.2.2) ∧ post x)) ∧ ∀ (x_2 : Nat × ByteArray × List Int × Int × Bool), post x_2 → ∃ (post : Nat × Bool → Prop), (((!x_2.2.2.2.2) = false → ((x_2.2.2.2.1 != (97 : Int)) = true → ∃ (x : Nat × Bool), (p = p ∧ cnRs (typ dItem eItemS s) = cnRs (typ dItem eItemS s) ∧ (↑x_2.1 : Int) = (↑x.1 : Int) ∧ ((↑x_2.2.1.size : Int) != (2 : Int)) = x.2) ∧ post x) ∧ ((x_2.2.2.2.1 != (97 : Int)) = false → ∃ (x : Nat × Bool), (p = p ∧ cnRs (typ dItem eItemS s) = cnRs (typ dItem eItemS s) ∧ (↑x_2.1 : Int) = (↑x.1 : Int) ∧ false = x.2) ∧ post x)) ∧ ((!x_2.2.2.2.2) = true → ∃ (x : Nat × Bool), (p = p ∧ cnRs (typ dItem eItemS s) = cnRs (typ dItem eItemS s) ∧ (↑x_2.1 : Int) = (↑x.1 : Int) ∧ true = x.2) ∧ post x)) ∧ ∀ (x_3 : Nat × Bool), post x_3 → (x_3.2 = true → false = formB p s) ∧ (x_3.2 = false → ∃ (y : Nat), (p = p ∧ cnRs (typ dItem eItemS s) = cnRs (typ dItem eItemS s) ∧ IntKind.i64.wrap ((↑x_3.1 : Int) + (1 : Int)) = (↑y : Int)) ∧ pre y ∧ μ y < μ x)) ∧ (decide ((↑x : Int) < (↑(List.length s) : Int)) = false → true = formB p s)) = _ by kernel_rfl) ?_
  have hx : s.length ≤ 1000 := (small_of (stoB_small hpre)).1
  refine ⟨fun i => i ≤ s.length ∧ ∀ j, j < i → formI p (s.getD j dItem) = true, fun i => s.length - i, 0, by simp, by simp, fun x hp => ?_⟩
  obtain ⟨h1, h2⟩ := hp
  refine ⟨fun hl0 => ?_, fun hge => ?_⟩
  · have hlt := ylt hl0
    clear hl0
    have hm : s.getD x dItem ∈ s := by rw [getD_lt hlt]; exact List.getElem_mem hlt
    have hk := sto_key hpre hm
    have hv := sto_val hpre hm
    have bad : formI p (s.getD x dItem) = false → false = formB p s := fun h => by
      simp only [formB]; exact (all_hit hlt h).symm
    have go : formI p (s.getD x dItem) = true → ∀ j, j < x + 1 → formI p (s.getD j dItem) = true := fun h => below_succ h2 h
    have hw := IntWalk.i64_in ((x : Int) + 1) (by omega)
    simp only [Int.toNat_natCast, Int.toNat_zero]
    obtain ⟨it, hit⟩ : ∃ it, it = s.getD x dItem := ⟨_, rfl⟩
    simp only [← hit] at hm hk hv bad go ⊢
    clear hit
    obtain ⟨v1, v2, v3⟩ := hv
    have hform : formI p it = ((((p == 1 && byteAt it.key 0 == 115 && it.val.length == 1 && decide (it.val.getD 0 0 ≤ 9)) || (p == 3 && byteAt it.key 0 == 97 && it.val.length == 1)) || (p == 2 && decide (it.val.getD 0 0 ≤ 9) && ((byteAt it.key 0 == 99 && it.val.length == 2) || (byteAt it.key 0 == 102 && it.val.length == 3 && inR (it.val.getD 1 0) 1 99 && decide (it.val.getD 2 0 ≤ 1))))) && (byteAt it.key 0 == 97 || it.key.size == 2)) := rfl
    obtain ⟨w0, hw0⟩ : ∃ w, w = it.val.getD 0 0 := ⟨_, rfl⟩
    obtain ⟨w1, hw1⟩ : ∃ w, w = it.val.getD 1 0 := ⟨_, rfl⟩
    obtain ⟨w2, hw2⟩ : ∃ w, w = it.val.getD 2 0 := ⟨_, rfl⟩
    obtain ⟨c0, hc0⟩ : ∃ w, w = byteAt it.key 0 := ⟨_, rfl⟩
    simp only [← hw0, ← hc0, ← hw1, ← hw2, c1, c2, c3, n2] at hform ⊢
    refine ⟨⟨by omega, by omega⟩, ⟨by omega, by omega⟩, ⟨by omega, by omega⟩, fun z => z = (x, it.key, it.val, c0, (it.val.length : Int), w0, (p == 1 && c0 == 115 && it.val.length == 1 && decide (w0 ≤ 9)) || (p == 3 && c0 == 97 && it.val.length == 1)), ?_, fun z hz => ?_⟩
    · clear bad go hpre h2 hl v3 hw0 hw1 hw2 hc0 hform
      repeat' (first | apply And.intro | intro _)
      all_goals (refine ⟨_, ?_, rfl⟩; simp_all)
    · subst hz
      simp only [Int.toNat_natCast, t1, t2, ← hw0, ← hc0, ← hw1, ← hw2]
      refine ⟨fun z => z = (x, it.key, it.val, c0, ((p == 1 && c0 == 115 && it.val.length == 1 && decide (w0 ≤ 9)) || (p == 3 && c0 == 97 && it.val.length == 1)) || (p == 2 && decide (w0 ≤ 9) && ((c0 == 99 && it.val.length == 2) || (c0 == 102 && it.val.length == 3 && inR w1 1 99 && decide (w2 ≤ 1))))), ?_, fun z hz => ?_⟩
      · obtain ⟨A, hA⟩ : ∃ A, A = ((p == 1 && c0 == 115 && it.val.length == 1 && decide (w0 ≤ 9)) || (p == 3 && c0 == 97 && it.val.length == 1)) := ⟨_, rfl⟩
        simp only [← hA]
        clear bad go hpre h2 hl v3 hw0 hw1 hw2 hc0 hform hA
        repeat' (first | apply And.intro | intro _ | refine ⟨(_, _, _), ⟨rfl, rfl, rfl⟩, ?_⟩)
        all_goals first | (refine ⟨_, ?_, rfl⟩; simp_all; done) | (simp_all; done) | (simp_all; omega)
      · subst hz
        obtain ⟨A, hA⟩ : ∃ A, A = (((p == 1 && c0 == 115 && it.val.length == 1 && decide (w0 ≤ 9)) || (p == 3 && c0 == 97 && it.val.length == 1)) || (p == 2 && decide (w0 ≤ 9) && ((c0 == 99 && it.val.length == 2) || (c0 == 102 && it.val.length == 3 && inR w1 1 99 && decide (w2 ≤ 1))))) := ⟨_, rfl⟩
        simp only [← hA] at hform ⊢
        refine ⟨fun z => z = (x, !(A && (c0 == 97 || it.key.size == 2))), ?_, fun z hz => ?_⟩
        · clear bad go hpre h2 hl v3 hw0 hw1 hw2 hc0 hform hA
          repeat' (first | apply And.intro | intro _)
          all_goals first | (refine ⟨_, ?_, rfl⟩; simp_all; done) | (simp_all; done) | (simp_all; omega)
        · subst hz
          refine ⟨fun a => ?_, fun a => ⟨x + 1, ⟨trivial, trivial, wrapN (by omega)⟩, ⟨by omega, go ?_⟩, muN hlt⟩⟩
          · have := bad (by rw [hform]; simp only [Bool.not_eq_true'] at a; exact a)
            simpa using this
          · rw [hform]; simp only [Bool.not_eq_false'] at a; exact a
  · have : x = s.length := by have := nlt hge; omega
    subst this
    simp only [formB]; exact (all_miss h2).symm
def spec_l3Form_c : Con Tryz.prog := ⟨94, 2, [.lend, .lend], [], Int × Sto, some fun b => stoB b.2 = true, fun b => [(0, kI b.1), (1, kSto b.2)], fun b => [(2, kB (formB b.1 b.2))], [], fun b h => spec_l3Form_ok (b.1) (b.2) h⟩
theorem spec_PlcOk_ok (p : Int) (s : Sto) : FunOK Tryz.prog 56 2 [] [(0, kI p), (1, kSto s)] (· = [(2, kB (plcB p s))]) := by
  refine fun_to (E := ⟨tab, ctOf [spec_l1In_c, spec_StoOk_c, spec_l3Form_c], 16, [], [(0, [0, 3]), (1, [4])], [], [], [], []⟩) tab_ok mixed Tryz.func56 rfl Tryz.ntmps56 (rvs := [.tmp 4]) Tryz.results56 rfl fun hl => ?_
  refine cast (show (∃ (b : Int × Int × Int), (p = b.1 ∧ (1 : Int) = b.2.1 ∧ (3 : Int) = b.2.2) ∧ (inR b.1 b.2.1 b.2.2 = true → ∃ (b : List Item), cnRs (typ dItem eItemS s) = cnRs (typ dItem eItemS b) ∧ (stoB b = true → ∃ (b : Int × Sto), (p = b.1 ∧ cnRs (typ dItem eItemS s) = cnRs (typ dItem eItemS b.2)) ∧ stoB b.2 = true ∧ formB b.1 b.2 = plcB p s) ∧ (stoB b = false → false = plcB p s)) ∧ (inR b.1 b.2.1 b.2.2 = false → false = plcB p s)) = _ by kernel_rfl) ?_
  refine ⟨(p, 1, 3), ⟨rfl, rfl, rfl⟩, fun h => ⟨s, rfl, fun h2 => ⟨(p, s), ⟨rfl, rfl⟩, h2, ?_⟩, fun h2 => ?_⟩, fun h => ?_⟩ <;> simp_all [plcB]
def spec_PlcOk_c : Con Tryz.prog := ⟨56, 2, [.lend, .lend], [], Int × Sto, none, fun b => [(0, kI b.1), (1, kSto b.2)], fun b => [(2, kB (plcB b.1 b.2))], [], fun b h => spec_PlcOk_ok (b.1) (b.2)⟩
theorem spec_l3Plan_ok (p : Int) (s : Sto) (tx : Int) (o : Opr) (hpre : plcB p s = true ∧ opOk o = true ∧ 0 ≤ tx ∧ tx ≤ 99) : FunOK Tryz.prog 65 4 [] [(0, kI p), (1, kSto s), (2, kI tx), (3, kOp o)] (· = [(4, kPlan (planP p s tx o))]) := by
  refine fun_to (E := ⟨tab, ctOf [spec_l3In_c, spec_l3May_c, spec_l3Plain_c, spec_l1Get_c, spec_l3No_c], 45, [], [(0, [0, 2, 5, 7, 8, 17, 22, 35, 36, 37, 38, 40, 41, 42, 43, 44]), (1, [2, 5, 7, 8, 12, 17, 22, 35, 36, 37, 38, 40, 41, 42, 43, 44]), (2, [2, 5, 7, 8, 12, 13, 17, 22, 35, 36, 37, 38, 40, 41, 42, 43, 44]), (3, [8, 17, 22, 35, 36, 37, 38, 40, 41, 42, 43, 44]), (4, [2, 5, 7, 8, 17, 18, 22, 35, 36, 37, 38, 40, 41, 42, 43, 44]), (5, [8, 17, 22, 35, 36, 37, 38, 40, 41, 42, 43, 44]), (6, [5, 7, 8, 9, 17, 22, 35, 36, 37, 38, 40, 41, 42, 43, 44]), (7, [7, 8, 9, 11, 17, 22, 35, 36, 37, 38, 40, 41, 42, 43, 44]), (8, [7, 8, 9, 17, 22, 32, 35, 36, 37, 38, 40, 41, 42, 43, 44]), (9, [8, 17, 22, 35, 36, 37, 38, 40, 41, 42, 43, 44]), (10, [8, 17, 22, 35, 36, 37, 38, 40, 41, 42, 43, 44])], [], [], [], []⟩) tab_ok mixed Tryz.func65 rfl Tryz.ntmps65 (rvs := [.cell 8 41]) Tryz.results65 rfl fun hl => ?_
  refine cast (show (((p == (1 : Int)) = true → ∃ (b : Sto × Opr), (cnRs (typ dItem eItemS s) = cnRs (typ dItem eItemS b.1) ∧ o.kind = b.2.kind ∧ o.who = b.2.who ∧ o.inn = b.2.inn ∧ o.code = b.2.code ∧ o.sec = b.2.sec ∧ o.fam = b.2.fam ∧ o.gen = b.2.gen) ∧ (plcB (1 : Int) b.1 = true ∧ opOk b.2 = true) ∧ (inP b.1 b.2).ok = (planP p s tx o).ok ∧ cnRs (typ ByteArray.empty eS (inP b.1 b.2).locks) = cnRs (typ ByteArray.empty eS (planP p s tx o).locks) ∧ cnRs (typ dWrt eWrtO (inP b.1 b.2).writes) = cnRs (typ dWrt eWrtO (planP p s tx o).writes)) ∧ ((p == (1 : Int)) = false → ((p == (2 : Int)) = true → ∃ (b : Sto × Opr), (cnRs (typ dItem eItemS s) = cnRs (typ dItem eItemS b.1) ∧ o.kind = b.2.kind ∧ o.who = b.2.who ∧ o.inn = b.2.inn ∧ o.code = b.2.code ∧ o.sec = b.2.sec ∧ o.fam = b.2.fam ∧ o.gen = b.2.gen) ∧ (plcB (2 : Int) b.1 = true ∧ opOk b.2 = true) ∧ (mayP b.1 b.2).ok = (planP p s tx o).ok ∧ cnRs (typ ByteArray.empty eS (mayP b.1 b.2).locks) = cnRs (typ ByteArray.empty eS (planP p s tx o).locks) ∧ cnRs (typ dWrt eWrtO (mayP b.1 b.2).writes) = cnRs (typ dWrt eWrtO (planP p s tx o).writes)) ∧ ((p == (2 : Int)) = false → ∃ (b : Int), tx = b ∧ ((0 : Int) ≤ b ∧ b ≤ (1000000 : Int)) ∧ (ByteArray.mk #[(97 : UInt8)]).size + (natS b.toNat).size ≤ (9223372036854775807 : Nat) ∧ ∃ (b_1 : Sto × ByteArray), (cnRs (typ dItem eItemS s) = cnRs (typ dItem eItemS b_1.1) ∧ (ByteArray.mk #[(97 : UInt8)]) ++ natS b.toNat = b_1.2) ∧ small b_1.1 ∧ ((getS b_1.1 b_1.2).isSome = true → ∃ (b_2 : List ByteArray), cnRs (frozenRs (typ ByteArray.empty (fun (y : ByteArray) => [CV.s y]) [(ByteArray.mk #[(97 : UInt8)]) ++ natS b.toNat])) = cnRs (typ ByteArray.empty eS b_2) ∧ b_2.length ≤ (10 : Nat) ∧ ((True ∧ (∀ (k : Nat), True ∧ True) ∧ (∀ (k : Nat), True ∧ True ∧ (∀ (k : Nat), True ∧ True) ∧ True) ∧ True) ∧ True) ∧ (noP b_2).ok = (planP p s tx o).ok ∧ cnRs (typ ByteArray.empty eS (noP b_2).locks) = cnRs (typ ByteArray.empty eS (planP p s tx o).locks) ∧ cnRs (typ dWrt eWrtO (noP b_2).writes) = cnRs (typ dWrt eWrtO (planP p s tx o).writes)) ∧ ((getS b_1.1 b_1.2).isSome = false → true = (planP p s tx o).ok ∧ cnRs (typ ByteArray.empty (fun (y : ByteArray) => [CV.s y]) [(ByteArray.mk #[(97 : UInt8)]) ++ natS b.toNat]) = cnRs (typ ByteArray.empty eS (planP p s tx o).locks) ∧ cnRs (raw [[CV.s ((ByteArray.mk #[(97 : UInt8)]) ++ natS b.toNat), CV.b false, CV.ow (3 : Nat) (typ (0 : Int) (fun (y : Int) => [CV.n IntKind.i64 y]) [o.kind])]]) = cnRs (typ dWrt eWrtO (planP p s tx o).writes))))) = _ by kernel_rfl) ?_
  have hs := plc_small hpre.1
  refine ⟨fun h1 => ⟨(s, o), ⟨rfl, rfl, rfl, rfl, rfl, rfl, rfl, rfl⟩, ?_, ?_⟩, fun h1 => ⟨fun h2 => ⟨(s, o), ⟨rfl, rfl, rfl, rfl, rfl, rfl, rfl, rfl⟩, ?_, ?_⟩, fun h2 => ⟨tx, rfl, by omega, ?_, (s, ⟨#[97]⟩ ++ natS tx.toNat), ⟨rfl, rfl⟩, hs, ?_⟩⟩⟩
  · simp_all
  · simp_all [planP]
  · simp_all
  · simp_all [planP]
  · have := natS_size tx.toNat (by omega)
    show 1 + _ ≤ _
    omega
  · simp only [beq_eq_false_iff_ne, ne_eq] at h1 h2
    simp only [planP, h1, h2, if_false, hasV]
    rcases opt_cases (getS s (⟨#[97]⟩ ++ natS tx.toNat)) with hk | ⟨v, hk⟩ <;> simp [noP, hk]
def spec_l3Plan_c : Con Tryz.prog := ⟨65, 4, [.lend, .lend, .lend, .lend], [], Int × Sto × Int × Opr, some fun b => plcB b.1 b.2.1 = true ∧ opOk b.2.2.2 = true ∧ 0 ≤ b.2.2.1 ∧ b.2.2.1 ≤ 99, fun b => [(0, kI b.1), (1, kSto b.2.1), (2, kI b.2.2.1), (3, kOp b.2.2.2)], fun b => [(4, kPlan (planP b.1 b.2.1 b.2.2.1 b.2.2.2))], [], fun b h => spec_l3Plan_ok (b.1) (b.2.1) (b.2.2.1) (b.2.2.2) h⟩
end Go.Proofs.AI

namespace Go.Proofs.AI
open Go.RowKit Go.Proofs
set_option linter.unusedVariables false
set_option linter.unusedSimpArgs false
set_option maxRecDepth 100000
def l4L (l : List Sto) (tx : Int) (o : Opr) : List Int → List Sto → List Sto × Bool
  | [], out => (out, true)
  | p :: ps, out =>
    let q := planP p (l.getD (p - 1).toNat []) tx o
    if q.ok = true then l4L l tx o ps (out.set (p - 1).toNat (doS (out.getD (p - 1).toNat []) q.writes)) else (l, false)
def l4D (l : List Sto) (tx : Int) (o : Opr) : List Sto × Bool := l4L l tx o (placesL o) l
def gloD (l : List Sto) (tx : Int) (o : Opr) : List Sto × Bool := if gloB l && opOk o && inR tx 0 29 then l4D l tx o else ([], false)
def smalls (l : List Sto) : Prop := l.length ≤ 100 ∧ ∀ s ∈ l, small s
theorem glo_at {l : List Sto} (h : gloB l = true) : l.length = 3 ∧ plcB 1 (l.getD 0 []) = true ∧ plcB 2 (l.getD 1 []) = true ∧ plcB 3 (l.getD 2 []) = true := by
  simp only [gloB, Bool.and_eq_true, beq_iff_eq] at h; exact ⟨h.1.1.1, h.1.1.2, h.1.2, h.2⟩
theorem cnRs_setF (es : Rows CV) (k o : Nat) (x : CV) : cnRs (setF es k o x) = (cnRs es).modify k (·.set o (cn x)) := by
  rw [cnRs_l, setF_l, cnRs_l]
  apply List.ext_getElem?
  intro i
  simp only [setRow, List.getElem?_modify, List.getElem?_map]
  by_cases h : k = i
  · cases es.l[i]? <;> simp [h, List.map_set]
  · cases es.l[i]? <;> simp [h]
@[simp] theorem cStoSet (l : List Sto) (k : Nat) (it : Sto) : cnRs (setF (typ [] eStoO l) k 0 (.ow tItem (typ dItem eItemO it))) = (l.set k it).map nStoO := by
  rw [cnRs_setF, cStoO]
  apply List.ext_getElem?
  intro i
  simp only [List.getElem?_modify, List.getElem?_map, List.getElem?_set]
  by_cases h : k = i
  · subst h
    by_cases hk : k < l.length
    · simp [hk]
    · simp [hk]
  · cases l[i]? <;> simp [h]
theorem plan_writes (p : Int) (s : Sto) (tx : Int) (o : Opr) (h : s.length ≤ 1000) : (planP p s tx o).writes.length ≤ 1000 := by
  have h1 : ((s.filter (outI o)).map outW).length ≤ 1000 := by
    rw [List.length_map]; exact Nat.le_trans (List.length_filter_le _ _) h
  simp only [planP, inP, mayP, tradeP, nextP, outP, noP]
  repeat' split
  all_goals first | exact h1 | simp
theorem doL_small : ∀ (ws : List Wrt) (s : Sto), small3 s → small3 (doL s ws)
  | [], s, h => h
  | w :: r, s, h => by
    rw [doL]
    cases hw : wrtB w
    · simp [small3]
    · cases hd : decide (40 < (writeS s w).length)
      · simp only [Bool.not_true, cond_false]
        exact doL_small r _ (writeS_small h hw (by simpa using hd))
      · simp [small3]
theorem doS_small (s : Sto) (ws : List Wrt) : small (doS s ws) := by
  rw [doS]
  cases h : stoB s
  · exact small_of (by simp [small3])
  · exact small_of (doL_small ws s (stoB_small h))
theorem l4L_small {l : List Sto} (hl : smalls l) (tx : Int) (o : Opr) : ∀ (ps : List Int) (out : List Sto), smalls out → smalls (l4L l tx o ps out).1
  | [], out, h => h
  | p :: ps, out, h => by
    simp only [l4L]
    split
    · refine l4L_small hl tx o ps _ ⟨by simpa using h.1, fun s hs => ?_⟩
      rcases List.mem_or_eq_of_mem_set hs with hs | rfl
      · exact h.2 s hs
      · exact doS_small _ _
    · exact hl
theorem glo_small {l : List Sto} (h : gloB l = true) : smalls l := by
  obtain ⟨g0, g1, g2, g3⟩ := glo_at h
  refine ⟨by omega, fun s hs => ?_⟩
  obtain ⟨j, hj, rfl⟩ := List.getElem_of_mem hs
  rw [← getD_lt (d := []) hj]
  have : j = 0 ∨ j = 1 ∨ j = 2 := by omega
  rcases this with rfl | rfl | rfl
  · exact plc_small g1
  · exact plc_small g2
  · exact plc_small g3
theorem cne (n : Nat) : ((n : Int) != 3) = !(n == 3) := by rw [Bool.eq_iff_iff]; simp; omega
theorem spec_GloOk_ok (l : List Sto) : FunOK Tryz.prog 19 1 [] [(0, k1 (sStos l))] (· = [(1, kB (gloB l))]) := by
  refine fun_to (E := ⟨tab, ctOf [spec_PlcOk_c], 21, [], [(0, [0]), (1, [0, 6]), (2, [2]), (3, [0, 3]), (4, [0, 3, 10]), (5, [0, 3]), (6, [0, 3, 20]), (7, [2]), (8, [2])], [(0, ⟨Nat, fun x => [(0, ⟨.one, [.c (.sh 35 (typ [] eStoS l))], []⟩), (3, ⟨.one, [.c (.n IntKind.i64 (x : Int))], []⟩)]⟩)], [], [], []⟩) tab_ok mixed Tryz.func19 rfl Tryz.ntmps19 (rvs := [.tmp 2]) Tryz.results19 rfl fun hl => ?_
  refine cast (show ((((↑l.length : Int) != (3 : Int)) = true → false = gloB l) ∧ (((↑l.length : Int) != (3 : Int)) = false → ∃ (pre : Nat → Prop), ∃ (μ : Nat → Nat), ∃ (x0 : Nat), (cnRs (typ [] eStoS l) = cnRs (typ [] eStoS l) ∧ (0 : Int) = (↑x0 : Int)) ∧ pre x0 ∧ ∀ (x : Nat), pre x → (decide ((↑x : Int) < (↑l.length : Int)) = true → ((0 : Int) ≤ (↑x : Int) ∧ (↑x : Int) < (↑l.length : Int)) ∧ ∃ (b : Int × Sto), (IntKind.i64.wrap ((↑x : Int) + (1 : Int)) = b.1 ∧ cnRs (typ dItem eItemS (l.getD (↑x : Int).toNat [])) = cnRs (typ dItem eItemS b.2)) ∧ ((!plcB b.1 b.2) = true → false = gloB l) ∧ ((!plcB b.1 b.2) = false → ∃ (y : Nat), (cnRs (typ [] eStoS l) = cnRs (typ [] eStoS l) ∧ IntKind.i64.wrap ((↑x : Int) + (1 : Int)) = (↑y : Int)) ∧ pre y ∧ μ y < μ x)) ∧ (decide ((↑x : Int) < (↑l.length : Int)) = false → true = gloB l))) = _ by kernel_rfl) ?_
  simp only [cne]
  refine ⟨fun h => ?_, fun h => ⟨fun i => i ≤ 3 ∧ l.length = 3 ∧ ∀ j, j < i → plcB ((j : Int) + 1) (l.getD j []) = true, fun i => 3 - i, 0, by simp, ⟨by omega, ?_, by simp⟩, fun x hp => ?_⟩⟩
  · have : ¬ l.length = 3 := by simpa using h
    simp [gloB, this]
  · simpa using h
  · obtain ⟨h1, h2, h3⟩ := hp
    have hw := IntWalk.i64_in ((x : Int) + 1) (by omega)
    refine ⟨fun hl0 => ?_, fun hge => ?_⟩
    · have hlt := ylt hl0
      refine ⟨⟨by omega, by omega⟩, ((x : Int) + 1, l.getD x []), ⟨hw, rfl⟩, fun a => ?_, fun a => ⟨x + 1, ⟨trivial, wrapN (by omega)⟩, ⟨by omega, h2, below_succ h3 ?_⟩, muN (by omega)⟩⟩
      · have hx : x = 0 ∨ x = 1 ∨ x = 2 := by omega
        rcases hx with rfl | rfl | rfl <;> simp_all [gloB]
      · simpa using a
    · have : x = 3 := by have := nlt hge; omega
      subst this
      have a := h3 0 (by omega); have b := h3 1 (by omega); have c := h3 2 (by omega)
      simp only [gloB, h2, beq_self_eq_true, Bool.true_and]
      simp only [show ((0 : Nat) : Int) + 1 = 1 from rfl, show ((1 : Nat) : Int) + 1 = 2 from rfl, show ((2 : Nat) : Int) + 1 = 3 from rfl] at a b c
      rw [a, b, c]; rfl
def spec_GloOk_c : Con Tryz.prog := ⟨19, 1, [.lend], [], List Sto, none, fun b => [(0, k1 (sStos b))], fun b => [(1, kB (gloB b))], [], fun b h => spec_GloOk_ok b⟩
theorem spec_l4Copy_ok (l : List Sto) (hpre : smalls l) : FunOK Tryz.prog 46 1 [] [(0, k1 (sStos l))] (· = [(1, k1 (oStos l))]) := by
  refine fun_to (E := ⟨tab, ctOf [spec_l1Copy_c], 21, [], [(0, [0, 3, 5, 12, 17, 18, 19]), (1, [0, 3, 5, 12, 17, 18, 19]), (2, [0, 3, 4, 5, 12, 17, 18, 19]), (3, [0, 3, 4, 5, 9, 12, 17, 18, 19]), (4, [0, 3, 4, 5, 12, 17, 18, 19]), (5, [0, 3, 4, 5, 12, 17, 18, 19]), (6, [2, 3, 5, 12, 17, 18, 19, 20])], [(0, ⟨List Sto × Nat, fun x => [(0, ⟨.one, [.c (.sh 35 (typ [] eStoS l))], []⟩), (3, ⟨.one, [.c (oStos (x.1))], []⟩), (4, ⟨.one, [.c (.n IntKind.i64 (x.2 : Int))], []⟩), (5, ⟨.one, [.c .any], []⟩)]⟩)], [(5, [(1000000, [])]), (6, [(1000000, [])])], [], []⟩) tab_ok mixed Tryz.func46 rfl Tryz.ntmps46 (rvs := [.tmp 2]) Tryz.results46 rfl fun hl => ?_
  refine cast (show (∃ (pre : List Sto × Nat → Prop), ∃ (μ : List Sto × Nat → Nat), ∃ (x0 : List Sto × Nat), (cnRs (typ [] eStoS l) = cnRs (typ [] eStoS l) ∧ cnRs (raw []) = cnRs (typ [] eStoO x0.1) ∧ (0 : Int) = (↑x0.2 : Int) ∧ True) ∧ pre x0 ∧ ∀ (x : List Sto × Nat), pre x → (decide ((↑x.2 : Int) < (↑l.length : Int)) = true → ((0 : Int) ≤ (↑x.2 : Int) ∧ (↑x.2 : Int) < (↑l.length : Int)) ∧ ∃ (b : List Item), cnRs (typ dItem eItemS (l.getD (↑x.2 : Int).toNat [])) = cnRs (typ dItem eItemS b) ∧ small b ∧ (x.1.length + (1 : Nat)) * (24 : Nat) ≤ (140737488355328 : Nat) ∧ ∃ (y : List Sto × Nat), (cnRs (typ [] eStoS l) = cnRs (typ [] eStoS l) ∧ cnRs (appR (typ [] eStoO x.1) (raw [[CV.ow (75 : Nat) (typ dItem eItemO b)]])) = cnRs (typ [] eStoO y.1) ∧ IntKind.i64.wrap ((↑x.2 : Int) + (1 : Int)) = (↑y.2 : Int) ∧ True) ∧ pre y ∧ μ y < μ x) ∧ (decide ((↑x.2 : Int) < (↑l.length : Int)) = false → cnRs (typ [] eStoO x.1) = cnRs (typ [] eStoO l))) = _ by kernel_rfl) ?_
  have hs := hpre.1
  refine ⟨fun x => x.2 ≤ l.length ∧ x.1 = l.take x.2, fun x => l.length - x.2, ([], 0), by simp, by simp, fun x hp => ?_⟩
  obtain ⟨h1, h2⟩ := hp
  refine ⟨fun hl0 => ?_, fun hge => ?_⟩
  · have hlt := ylt hl0
    have hm : l.getD x.2 [] ∈ l := by rw [getD_lt hlt]; exact List.getElem_mem hlt
    have hn : x.1.length = x.2 := by rw [h2]; simp; omega
    refine ⟨⟨by omega, by omega⟩, l.getD x.2 [], rfl, hpre.2 _ hm, by omega, (x.1 ++ [l.getD x.2 []], x.2 + 1), ⟨rfl, by simp, wrapN (by omega), trivial⟩, ⟨by simp; omega, ?_⟩, muN hlt⟩
    simp only [h2]; exact (take_succ hlt).symm
  · have : x.2 = l.length := by have := nlt hge; omega
    simp [h2, this]
def spec_l4Copy_c : Con Tryz.prog := ⟨46, 1, [.lend], [], List Sto, some fun b => smalls b, fun b => [(0, k1 (sStos b))], fun b => [(1, k1 (oStos b))], [], fun b h => spec_l4Copy_ok b h⟩
theorem spec_l4Do_ok (l : List Sto) (tx : Int) (o : Opr) (hpre : gloB l = true ∧ opOk o = true ∧ 0 ≤ tx ∧ tx ≤ 29) : FunOK Tryz.prog 45 3 [] [(0, k1 (sStos l)), (1, kI tx), (2, kOp o)] (· = [(3, ⟨.tup [(false, 1), (false, 1)], [.c (sStos (l4D l tx o).1), .c (.b (l4D l tx o).2)], []⟩)]) := by
  refine fun_to (E := ⟨tab, ctOf [spec_l4Copy_c, spec_OpPlaces_c, spec_l3Plan_c, spec_StoDo_c], 60, [], [(0, [0, 1, 5, 9, 15, 40, 59]), (1, [0, 1, 5, 8, 9, 13, 15, 40, 59]), (2, [0, 1, 5, 8, 9, 13, 15, 40, 59]), (3, [0, 1, 5, 8, 9, 10, 13, 15, 40, 59]), (4, [0, 1, 5, 8, 9, 10, 13, 15, 19, 40, 59]), (5, [0, 1, 5, 8, 9, 10, 13, 15, 40, 59]), (6, [0, 1, 5, 8, 9, 10, 11, 13, 15, 40, 59]), (7, [0, 1, 5, 8, 9, 10, 11, 13, 15, 39, 40, 59]), (8, [0, 6, 7, 9, 15, 40, 59]), (9, [0, 1, 5, 8, 9, 10, 13, 15, 40, 59]), (10, [0, 6, 7, 9, 15, 40, 59])], [(0, ⟨List Sto × Nat, fun x => [(0, ⟨.one, [.c (.sh 35 (typ [] eStoS l))], []⟩), (1, ⟨.one, [.c (.n IntKind.i64 tx)], []⟩), (5, ⟨.box, [.c (.n IntKind.i64 o.kind), .c (.n IntKind.i64 o.who), .c (.n IntKind.i64 o.inn), .c (.n IntKind.i64 o.code), .c (.n IntKind.i64 o.sec), .c (.n IntKind.i64 o.fam), .c (.n IntKind.i64 o.gen)], []⟩), (8, ⟨.one, [.c (.ow 3 (typ (0 : Int) eI (placesL o)))], []⟩), (9, ⟨.one, [.c (oStos (x.1))], []⟩), (10, ⟨.one, [.c (.n IntKind.i64 (x.2 : Int))], []⟩), (13, ⟨.one, [.c .any], []⟩), (15, ⟨.one, [.c .any], []⟩)]⟩)], [(10, [(0, [9]), (1000000, [])])], [], []⟩) tab_ok mixed Tryz.func45 rfl Tryz.ntmps45 (rvs := [.tmp 6, .tmp 7]) Tryz.results45 rfl fun hl => ?_
  refine cast (show (∃ (b : Opr), (o.kind = b.kind ∧ o.who = b.who ∧ o.inn = b.inn ∧ o.code = b.code ∧ o.sec = b.sec ∧ o.fam = b.fam ∧ o.gen = b.gen) ∧ ∃ (b_1 : List Sto), cnRs (typ [] eStoS l) = cnRs (typ [] eStoS b_1) ∧ smalls b_1 ∧ ∃ (pre : List Sto × Nat → Prop), ∃ (μ : List Sto × Nat → Nat), ∃ (x0 : List Sto × Nat), (cnRs (typ [] eStoS l) = cnRs (typ [] eStoS l) ∧ tx = tx ∧ (o.kind = o.kind ∧ o.who = o.who ∧ o.inn = o.inn ∧ o.code = o.code ∧ o.sec = o.sec ∧ o.fam = o.fam ∧ o.gen = o.gen) ∧ cnRs (typ (0 : Int) eI (placesL b)) = cnRs (typ (0 : Int) eI (placesL o)) ∧ cnRs (typ [] eStoO b_1) = cnRs (typ [] eStoO x0.1) ∧ (0 : Int) = (↑x0.2 : Int) ∧ True ∧ True) ∧ pre x0 ∧ ∀ (x : List Sto × Nat), pre x → (decide ((↑x.2 : Int) < (↑(placesL o).length : Int)) = true → ((0 : Int) ≤ (↑x.2 : Int) ∧ (↑x.2 : Int) < (↑(placesL o).length : Int)) ∧ (↑x.2 : Int).toNat < (placesL o).length ∧ ((0 : Int) ≤ (↑x.2 : Int) ∧ (↑x.2 : Int) < (↑(placesL o).length : Int)) ∧ (↑x.2 : Int).toNat < (placesL o).length ∧ ((0 : Int) ≤ IntKind.i64.wrap ((placesL o).getD (↑x.2 : Int).toNat (0 : Int) - (1 : Int)) ∧ IntKind.i64.wrap ((placesL o).getD (↑x.2 : Int).toNat (0 : Int) - (1 : Int)) < (↑l.length : Int)) ∧ ∃ (b : Int × Sto × Int × Opr), ((placesL o).getD (↑x.2 : Int).toNat (0 : Int) = b.1 ∧ cnRs (typ dItem eItemS (l.getD (IntKind.i64.wrap ((placesL o).getD (↑x.2 : Int).toNat (0 : Int) - (1 : Int))).toNat [])) = cnRs (typ dItem eItemS b.2.1) ∧ tx = b.2.2.1 ∧ o.kind = b.2.2.2.kind ∧ o.who = b.2.2.2.who ∧ o.inn = b.2.2.2.inn ∧ o.code = b.2.2.2.code ∧ o.sec = b.2.2.2.sec ∧ o.fam = b.2.2.2.fam ∧ o.gen = b.2.2.2.gen) ∧ (plcB b.1 b.2.1 = true ∧ opOk b.2.2.2 = true ∧ (0 : Int) ≤ b.2.2.1 ∧ b.2.2.1 ≤ (99 : Int)) ∧ ((!(planP b.1 b.2.1 b.2.2.1 b.2.2.2).ok) = true → cnRs (typ [] eStoS l) = cnRs (typ [] eStoS (l4D l tx o).1) ∧ false = (l4D l tx o).2) ∧ ((!(planP b.1 b.2.1 b.2.2.1 b.2.2.2).ok) = false → ((0 : Int) ≤ (↑x.2 : Int) ∧ (↑x.2 : Int) < (↑(placesL o).length : Int)) ∧ (↑x.2 : Int).toNat < (placesL o).length ∧ ((0 : Int) ≤ (↑x.2 : Int) ∧ (↑x.2 : Int) < (↑(placesL o).length : Int)) ∧ (↑x.2 : Int).toNat < (placesL o).length ∧ ((0 : Int) ≤ IntKind.i64.wrap ((placesL o).getD (↑x.2 : Int).toNat (0 : Int) - (1 : Int)) ∧ IntKind.i64.wrap ((placesL o).getD (↑x.2 : Int).toNat (0 : Int) - (1 : Int)) < (↑x.1.length : Int)) ∧ (IntKind.i64.wrap ((placesL o).getD (↑x.2 : Int).toNat (0 : Int) - (1 : Int))).toNat < x.1.length ∧ (IntKind.i64.wrap ((placesL o).getD (↑x.2 : Int).toNat (0 : Int) - (1 : Int))).toNat < x.1.length ∧ ∃ (b_2 : Sto × List Wrt), (cnRs (frozenRs (typ dItem eItemO (x.1.getD (IntKind.i64.wrap ((placesL o).getD (↑x.2 : Int).toNat (0 : Int) - (1 : Int))).toNat []))) = cnRs (typ dItem eItemS b_2.1) ∧ cnRs (frozenRs (typ dWrt eWrtO (planP b.1 b.2.1 b.2.2.1 b.2.2.2).writes)) = cnRs (typ dWrt eWrtS b_2.2)) ∧ b_2.2.length ≤ (1000 : Nat) ∧ (((∀ (k : Nat), True ∧ (∀ (k : Nat), True ∧ True) ∧ True) ∧ True) ∧ True) ∧ ((0 : Int) ≤ IntKind.i64.wrap ((placesL o).getD (↑x.2 : Int).toNat (0 : Int) - (1 : Int)) ∧ IntKind.i64.wrap ((placesL o).getD (↑x.2 : Int).toNat (0 : Int) - (1 : Int)) < (↑x.1.length : Int)) ∧ (IntKind.i64.wrap ((placesL o).getD (↑x.2 : Int).toNat (0 : Int) - (1 : Int))).toNat < x.1.length ∧ ∃ (y : List Sto × Nat), (cnRs (typ [] eStoS l) = cnRs (typ [] eStoS l) ∧ tx = tx ∧ (o.kind = o.kind ∧ o.who = o.who ∧ o.inn = o.inn ∧ o.code = o.code ∧ o.sec = o.sec ∧ o.fam = o.fam ∧ o.gen = o.gen) ∧ cnRs (typ (0 : Int) eI (placesL o)) = cnRs (typ (0 : Int) eI (placesL o)) ∧ cnRs (setF (typ [] eStoO x.1) (IntKind.i64.wrap ((placesL o).getD (↑x.2 : Int).toNat (0 : Int) - (1 : Int))).toNat (0 : Nat) (CV.ow (75 : Nat) (typ dItem eItemO (doS b_2.1 b_2.2)))) = cnRs (typ [] eStoO y.1) ∧ IntKind.i64.wrap ((↑x.2 : Int) + (1 : Int)) = (↑y.2 : Int) ∧ True ∧ True) ∧ pre y ∧ μ y < μ x)) ∧ (decide ((↑x.2 : Int) < (↑(placesL o).length : Int)) = false → cnRs (frozenRs (typ [] eStoO x.1)) = cnRs (typ [] eStoS (l4D l tx o).1) ∧ true = (l4D l tx o).2)) = _ by kernel_rfl) ?_
  obtain ⟨hg, ho, ht1, ht2⟩ := hpre
  obtain ⟨g0, g1, g2, g3⟩ := glo_at hg
  have hpl : (placesL o).length ≤ 3 := by simp only [placesL]; repeat' split
                                          all_goals simp
  have hp : ∀ i, i < (placesL o).length → 1 ≤ (placesL o).getD i 0 ∧ (placesL o).getD i 0 ≤ 3 := by
    intro i hi
    rw [getD_lt hi]
    have : ∀ p ∈ placesL o, 1 ≤ p ∧ p ≤ 3 := by
      simp only [placesL]; repeat' split
      all_goals simp
    exact this _ (List.getElem_mem hi)
  have hplc : ∀ p : Int, 1 ≤ p → p ≤ 3 → plcB p (l.getD (p - 1).toNat []) = true := by
    intro p h1 h2
    have : p = 1 ∨ p = 2 ∨ p = 3 := by omega
    rcases this with rfl | rfl | rfl
    · exact g1
    · exact g2
    · exact g3
  have hsm : smalls l := ⟨by omega, fun s hs => by
    obtain ⟨j, hj, rfl⟩ := List.getElem_of_mem hs
    have := hplc ((j : Int) + 1) (by omega) (by omega)
    rw [show ((j : Int) + 1 - 1).toNat = j by omega, getD_lt hj] at this
    exact plc_small this⟩
  refine ⟨o, ⟨rfl, rfl, rfl, rfl, rfl, rfl, rfl⟩, l, rfl, hsm, fun x => x.2 ≤ (placesL o).length ∧ x.1.length = 3 ∧ l4L l tx o ((placesL o).drop x.2) x.1 = l4D l tx o, fun x => (placesL o).length - x.2, (l, 0), by simp, ⟨by simp, g0, by simp [l4D]⟩, fun x hq => ?_⟩
  obtain ⟨h1, h2, h3⟩ := hq
  refine ⟨fun hl0 => ?_, fun hge => ?_⟩
  · have hlt := ylt hl0
    clear hl0
    have hpx := hp x.2 hlt
    rw [drop_at hlt (d := 0), l4L] at h3
    simp only [Int.toNat_natCast]
    obtain ⟨p, hpe⟩ : ∃ p, p = (placesL o).getD x.2 0 := ⟨_, rfl⟩
    simp only [← hpe] at hpx h3 ⊢
    have hw := IntWalk.i64_in (p - 1) (by omega)
    simp only [hw]
    have hpp := hplc p hpx.1 hpx.2
    have hws := plan_writes p (l.getD (p - 1).toNat []) tx o (plc_small hpp).1
    refine ⟨⟨by omega, by omega⟩, hlt, ⟨by omega, by omega⟩, hlt, ⟨by omega, by omega⟩, (p, l.getD (p - 1).toNat [], tx, o), ⟨rfl, rfl, rfl, rfl, rfl, rfl, rfl, rfl, rfl, rfl⟩, ⟨hpp, ho, ht1, Int.le_trans ht2 (by omega)⟩, fun a => ?_, fun a => ?_⟩
    · simp only [Bool.not_eq_true'] at a
      simp only [a, Bool.false_eq_true, if_false] at h3
      rw [← h3]; exact ⟨rfl, rfl⟩
    · simp only [Bool.not_eq_false'] at a
      simp only [a, if_true] at h3
      refine ⟨⟨by omega, by omega⟩, hlt, ⟨by omega, by omega⟩, hlt, ⟨by omega, by omega⟩, by omega, by omega, (x.1.getD (p - 1).toNat [], (planP p (l.getD (p - 1).toNat []) tx o).writes), ⟨by simp, by simp⟩, hws, by simp, ⟨by omega, by omega⟩, by omega, (x.1.set (p - 1).toNat (doS (x.1.getD (p - 1).toNat []) (planP p (l.getD (p - 1).toNat []) tx o).writes), x.2 + 1), ⟨trivial, trivial, ⟨trivial, trivial, trivial, trivial, trivial, trivial, trivial⟩, trivial, by simp, wrapN (by omega), trivial, trivial⟩, ⟨by simp only; omega, by simp [h2], h3⟩, muN hlt⟩
  · have : x.2 = (placesL o).length := by have := nlt hge; omega
    rw [this, List.drop_length, l4L] at h3
    rw [← h3]; simp
def spec_l4Do_c : Con Tryz.prog := ⟨45, 3, [.lend, .lend, .lend], [], List Sto × Int × Opr, some fun b => gloB b.1 = true ∧ opOk b.2.2 = true ∧ 0 ≤ b.2.1 ∧ b.2.1 ≤ 29, fun b => [(0, k1 (sStos b.1)), (1, kI b.2.1), (2, kOp b.2.2)], fun b => [(3, ⟨.tup [(false, 1), (false, 1)], [.c (sStos (l4D b.1 b.2.1 b.2.2).1), .c (.b (l4D b.1 b.2.1 b.2.2).2)], []⟩)], [], fun b h => spec_l4Do_ok (b.1) (b.2.1) (b.2.2) h⟩
theorem spec_GloDo_ok (l : List Sto) (tx : Int) (o : Opr) (hpre : l.length ≤ 100) : FunOK Tryz.prog 12 3 [] [(0, k1 (sStos l)), (1, kI tx), (2, kOp o)] (· = [(3, ⟨.tup [(false, 1), (false, 1)], [.c (oStos (gloD l tx o).1), .c (.b (gloD l tx o).2)], []⟩)]) := by
  refine fun_to (E := ⟨tab, ctOf [spec_OpOk_c, spec_GloOk_c, spec_l1In_c, spec_l4Do_c, spec_l4Copy_c], 34, [], [(0, [0, 1, 5, 23, 32]), (1, [0, 1, 5, 22, 23, 32]), (2, [6, 7, 23, 32]), (3, [8, 9, 23, 24, 28, 29]), (4, [6, 7, 23, 32])], [], [(4, [(1000000, [])])], [(1, ⟨Bool, fun x => [(0, ⟨.one, [.c (.sh 35 (typ [] eStoS l))], []⟩), (1, ⟨.one, [.c (.n IntKind.i64 tx)], []⟩), (5, ⟨.box, [.c (.n IntKind.i64 o.kind), .c (.n IntKind.i64 o.who), .c (.n IntKind.i64 o.inn), .c (.n IntKind.i64 o.code), .c (.n IntKind.i64 o.sec), .c (.n IntKind.i64 o.fam), .c (.n IntKind.i64 o.gen)], []⟩), (22, ⟨.one, [.c (.b (x))], []⟩)]⟩)], []⟩) tab_ok mixed Tryz.func12 rfl Tryz.ntmps12 (rvs := [.tmp 6, .tmp 7]) Tryz.results12 rfl fun hl => ?_
  refine cast (show (∃ (post : Bool → Prop), (∃ (b : List Sto), cnRs (typ [] eStoS l) = cnRs (typ [] eStoS b) ∧ ((!gloB b) = false → ∃ (b : Opr), (o.kind = b.kind ∧ o.who = b.who ∧ o.inn = b.inn ∧ o.code = b.code ∧ o.sec = b.sec ∧ o.fam = b.fam ∧ o.gen = b.gen) ∧ ((!opOk b) = false → ∃ (b : Int × Int × Int), (tx = b.1 ∧ (0 : Int) = b.2.1 ∧ (29 : Int) = b.2.2) ∧ ∃ (x : Bool), (cnRs (typ [] eStoS l) = cnRs (typ [] eStoS l) ∧ tx = tx ∧ (o.kind = o.kind ∧ o.who = o.who ∧ o.inn = o.inn ∧ o.code = o.code ∧ o.sec = o.sec ∧ o.fam = o.fam ∧ o.gen = o.gen) ∧ (!inR b.1 b.2.1 b.2.2) = x) ∧ post x) ∧ ((!opOk b) = true → ∃ (x : Bool), (cnRs (typ [] eStoS l) = cnRs (typ [] eStoS l) ∧ tx = tx ∧ (o.kind = o.kind ∧ o.who = o.who ∧ o.inn = o.inn ∧ o.code = o.code ∧ o.sec = o.sec ∧ o.fam = o.fam ∧ o.gen = o.gen) ∧ true = x) ∧ post x)) ∧ ((!gloB b) = true → ∃ (x : Bool), (cnRs (typ [] eStoS l) = cnRs (typ [] eStoS l) ∧ tx = tx ∧ (o.kind = o.kind ∧ o.who = o.who ∧ o.inn = o.inn ∧ o.code = o.code ∧ o.sec = o.sec ∧ o.fam = o.fam ∧ o.gen = o.gen) ∧ true = x) ∧ post x)) ∧ ∀ (x : Bool), post x → (x = true → cnRs (raw []) = cnRs (typ [] eStoO (gloD l tx o).1) ∧ false = (gloD l tx o).2) ∧ (x = false → ∃ (b : List Sto × Int × Opr), (cnRs (typ [] eStoS l) = cnRs (typ [] eStoS b.1) ∧ tx = b.2.1 ∧ o.kind = b.2.2.kind ∧ o.who = b.2.2.who ∧ o.inn = b.2.2.inn ∧ o.code = b.2.2.code ∧ o.sec = b.2.2.sec ∧ o.fam = b.2.2.fam ∧ o.gen = b.2.2.gen) ∧ (gloB b.1 = true ∧ opOk b.2.2 = true ∧ (0 : Int) ≤ b.2.1 ∧ b.2.1 ≤ (29 : Int)) ∧ ∃ (b_1 : List Sto), cnRs (typ [] eStoS (l4D b.1 b.2.1 b.2.2).1) = cnRs (typ [] eStoS b_1) ∧ smalls b_1 ∧ cnRs (typ [] eStoO b_1) = cnRs (typ [] eStoO (gloD l tx o).1) ∧ (l4D b.1 b.2.1 b.2.2).2 = (gloD l tx o).2)) = _ by kernel_rfl) ?_
  refine ⟨fun z => z = !(gloB l && opOk o && inR tx 0 29), ?_, fun z hz => ?_⟩
  · refine ⟨l, rfl, fun a => ⟨o, ⟨rfl, rfl, rfl, rfl, rfl, rfl, rfl⟩, fun b => ⟨(tx, 0, 29), ⟨rfl, rfl, rfl⟩, ?_⟩, fun b => ?_⟩, fun a => ?_⟩
    all_goals (refine ⟨_, ?_, rfl⟩; simp_all)
  · subst hz
    refine ⟨fun a => ?_, fun a => ?_⟩
    · have : (gloB l && opOk o && inR tx 0 29) = false := by simpa only [Bool.not_eq_true'] using a
      simp [gloD, this]
    · have h : (gloB l && opOk o && inR tx 0 29) = true := by simpa only [Bool.not_eq_false'] using a
      have hd : gloD l tx o = l4D l tx o := by simp only [gloD, h, if_true]
      simp only [Bool.and_eq_true] at h
      have ht : 0 ≤ tx ∧ tx ≤ 29 := by simpa [inR] using h.2
      rw [hd]
      refine ⟨(l, tx, o), ⟨rfl, rfl, rfl, rfl, rfl, rfl, rfl, rfl, rfl⟩, ⟨h.1.1, h.1.2, ht.1, ht.2⟩, (l4D l tx o).1, rfl, l4L_small (glo_small h.1.1) tx o _ _ (glo_small h.1.1), rfl, rfl⟩
def spec_GloDo_c : Con Tryz.prog := ⟨12, 3, [.lend, .lend, .lend], [], List Sto × Int × Opr, some fun b => b.1.length ≤ 100, fun b => [(0, k1 (sStos b.1)), (1, kI b.2.1), (2, kOp b.2.2)], fun b => [(3, ⟨.tup [(false, 1), (false, 1)], [.c (oStos (gloD b.1 b.2.1 b.2.2).1), .c (.b (gloD b.1 b.2.1 b.2.2).2)], []⟩)], [], fun b h => spec_GloDo_ok (b.1) (b.2.1) (b.2.2) h⟩
end Go.Proofs.AI
