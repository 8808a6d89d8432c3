/- Data and contracts. Conditions: none. -/
import Derived.Test.YtcmjdjomidhdnaaGreatDoorAiE
import Derived.KernelRfl
import Derived.IntWalk
import Derived.Test.YtcmjdjomidhdnaaGreatDoorProg
namespace Go.Proofs.AI
open Go.RowKit Go.Proofs
set_option linter.unusedVariables false
set_option linter.unusedSimpArgs false
set_option maxRecDepth 100000
def tab : Tab
  | 3 => some ⟨.int .i64, 1, 8, [], [.int .i64 0], [], []⟩ -- int
  | 4 => some ⟨.bool, 1, 1, [], [.bool false], [], []⟩ -- bool
  | 5 => some ⟨.int .u8, 1, 1, [], [.int .u8 0], [], []⟩ -- uint8
  | 9 => some ⟨.str, 1, 16, [], [.string ByteArray.empty], [], []⟩ -- string
  | 22 => some ⟨.sl 5, 1, 24, [], [.slice none 0 0], [], [some 5]⟩ -- []uint8
  | 23 => some ⟨.sl 35, 1, 24, [], [.slice none 0 0], [], [some 35]⟩ -- []impl.StoStore
  | 25 => some ⟨.st, 7, 56, [(0,1,false),(1,1,false),(2,1,false),(3,1,false),(4,1,false),(5,1,false),(6,1,false)], [.int .i64 0,.int .i64 0,.int .i64 0,.int .i64 0,.int .i64 0,.int .i64 0,.int .i64 0], [.n .i64,.n .i64,.n .i64,.n .i64,.n .i64,.n .i64,.n .i64], []⟩ -- impl.OpOp
  | 33 => some ⟨.sl 75, 1, 24, [], [.slice none 0 0], [], [some 75]⟩ -- []impl.StoItem
  | 35 => some ⟨.st, 1, 24, [(0,1,false)], [.slice none 0 0], [], [some 75]⟩ -- impl.StoStore
  | 38 => some ⟨.sl 9, 1, 24, [], [.slice none 0 0], [], [some 9]⟩ -- []string
  | 39 => some ⟨.sl 55, 1, 24, [], [.slice none 0 0], [], [some 55]⟩ -- []impl.StoWrite
  | 41 => some ⟨.st, 3, 56, [(0,1,false),(1,1,false),(2,1,false)], [.bool false,.slice none 0 0,.slice none 0 0], [], [none,some 9,some 55]⟩ -- impl.OpPlan
  | 46 => some ⟨.sl 3, 1, 24, [], [.slice none 0 0], [], [some 3]⟩ -- []int
  | 55 => some ⟨.st, 3, 48, [(0,1,false),(1,1,false),(2,1,false)], [.string ByteArray.empty,.bool false,.slice none 0 0], [], [none,none,some 3]⟩ -- impl.StoWrite
  | 57 => some ⟨.sl 96, 1, 24, [], [.slice none 0 0], [], [some 96]⟩ -- []laws.StoStore
  | 58 => some ⟨.st, 7, 56, [(0,1,false),(1,1,false),(2,1,false),(3,1,false),(4,1,false),(5,1,false),(6,1,false)], [.int .i64 0,.int .i64 0,.int .i64 0,.int .i64 0,.int .i64 0,.int .i64 0,.int .i64 0], [.n .i64,.n .i64,.n .i64,.n .i64,.n .i64,.n .i64,.n .i64], []⟩ -- laws.OpOp
  | 75 => some ⟨.st, 2, 40, [(0,1,false),(1,1,false)], [.string ByteArray.empty,.slice none 0 0], [], [none,some 3]⟩ -- impl.StoItem
  | 94 => some ⟨.sl 139, 1, 24, [], [.slice none 0 0], [], [some 139]⟩ -- []laws.StoItem
  | 96 => some ⟨.st, 1, 24, [(0,1,false)], [.slice none 0 0], [], [some 139]⟩ -- laws.StoStore
  | 100 => some ⟨.st, 2, 32, [(0,1,false),(1,1,false)], [.slice none 0 0,.int .i64 0], [], [some 5,none]⟩ -- spec.l20Rd
  | 125 => some ⟨.sl 46, 1, 24, [], [.slice none 0 0], [], [some 46]⟩ -- [][]int
  | 139 => some ⟨.st, 2, 40, [(0,1,false),(1,1,false)], [.string ByteArray.empty,.slice none 0 0], [], [none,some 3]⟩ -- laws.StoItem
  | 144 => some ⟨.int .u64, 1, 8, [], [.int .u64 0], [], []⟩ -- uint
  | _ => none
theorem tab_ok : TabOk Tryz.prog tab := by
  intro t i h
  unfold tab at h
  split at h <;> first | (cases h; first | exact tabOf_eq rfl rfl | exact tabOf_eq rfl (by kernel_rfl)) | cases h
theorem mixed : Tryz.prog.follows .mixedOrders = true := rfl
abbrev tI : TypeId := 3
abbrev tS : TypeId := 9
abbrev tItem : TypeId := 75
abbrev tWrt : TypeId := 55
abbrev tSto : TypeId := 35
structure Item where
  key : ByteArray
  val : List Int
structure Wrt where
  key : ByteArray
  del : Bool
  val : List Int
structure Opr where
  kind : Int
  who : Int
  inn : Int
  code : Int
  sec : Int
  fam : Int
  gen : Int
structure Plan where
  ok : Bool
  locks : List ByteArray
  writes : List Wrt
abbrev Sto := List Item
abbrev kB (b : Bool) : Ky := ⟨.one, [.c (.b b)], []⟩
abbrev kI (x : Int) : Ky := ⟨.one, [.c (.n .i64 x)], []⟩
abbrev kS (x : ByteArray) : Ky := ⟨.one, [.c (.s x)], []⟩
abbrev k1 (x : CV) : Ky := ⟨.one, [.c x], []⟩
def dItem : Item := ⟨ByteArray.empty, []⟩
def dWrt : Wrt := ⟨ByteArray.empty, false, []⟩
def eI (x : Int) : List CV := [.n .i64 x]
def eS (x : ByteArray) : List CV := [.s x]
abbrev sI (xs : List Int) : CV := .sh tI (typ 0 eI xs)
abbrev oI (xs : List Int) : CV := .ow tI (typ 0 eI xs)
abbrev sS (xs : List ByteArray) : CV := .sh tS (typ ByteArray.empty eS xs)
abbrev oS (xs : List ByteArray) : CV := .ow tS (typ ByteArray.empty eS xs)
def eItemS (x : Item) : List CV := [.s x.key, sI x.val]
def eItemO (x : Item) : List CV := [.s x.key, oI x.val]
abbrev sItems (xs : List Item) : CV := .sh tItem (typ dItem eItemS xs)
abbrev oItems (xs : List Item) : CV := .ow tItem (typ dItem eItemO xs)
abbrev mItems (xs : List Item) : CV := .ow tItem (typ dItem eItemS xs)
def eWrtS (x : Wrt) : List CV := [.s x.key, .b x.del, sI x.val]
def eWrtO (x : Wrt) : List CV := [.s x.key, .b x.del, oI x.val]
abbrev sWrts (xs : List Wrt) : CV := .sh tWrt (typ dWrt eWrtS xs)
abbrev oWrts (xs : List Wrt) : CV := .ow tWrt (typ dWrt eWrtO xs)
def eStoS (x : Sto) : List CV := [sItems x]
def eStoO (x : Sto) : List CV := [oItems x]
abbrev sStos (xs : List Sto) : CV := .sh tSto (typ [] eStoS xs)
abbrev oStos (xs : List Sto) : CV := .ow tSto (typ [] eStoO xs)
def cOp (o : Opr) : List SC := [.c (.n .i64 o.kind), .c (.n .i64 o.who), .c (.n .i64 o.inn), .c (.n .i64 o.code), .c (.n .i64 o.sec), .c (.n .i64 o.fam), .c (.n .i64 o.gen)]
abbrev kOp (o : Opr) : Ky := ⟨.agg, cOp o, []⟩
abbrev kSto (s : Sto) : Ky := ⟨.agg, [.c (sItems s)], []⟩
abbrev kItem (x : Item) : Ky := ⟨.agg, [.c (.s x.key), .c (sI x.val)], []⟩
abbrev kWrt (x : Wrt) : Ky := ⟨.agg, [.c (.s x.key), .c (.b x.del), .c (sI x.val)], []⟩
@[simp] theorem typ_n {C α : Type} (d : α) (g : α → List C) (xs : List α) : (typ d g xs).n = xs.length := rfl
/-! What rows show. -/
@[simp] theorem cn_ow (e : TypeId) (r : Rows CV) : cn (.ow e r) = .ow e (raw (cnRs r)) := by simp only [cn]
@[simp] theorem cn_sh (e : TypeId) (r : Rows CV) : cn (.sh e r) = .sh e (raw (cnRs r)) := by simp only [cn]
@[simp] theorem cn_any : cn .any = .any := by simp only [cn]
@[simp] theorem cn_b (x : Bool) : cn (.b x) = .b x := by simp only [cn]
@[simp] theorem cn_n (k : IntKind) (x : Int) : cn (.n k x) = .n k x := by simp only [cn]
@[simp] theorem cn_s (x : ByteArray) : cn (.s x) = .s x := by simp only [cn]
@[simp] theorem cn_vl (v : Value) : cn (.vl v) = .vl v := by simp only [cn]
@[simp] theorem cnR_nil : cnR [] = [] := by simp only [cnR]
@[simp] theorem cnR_cons (x : CV) (xs : List CV) : cnR (x :: xs) = cn x :: cnR xs := by simp only [cnR]
@[simp] theorem fi_eI (xs : List Int) : typ 0 (fun y => [CV.n .i64 y]) xs = typ 0 eI xs := rfl
@[simp] theorem fi_eS (xs : List ByteArray) : typ ByteArray.empty (fun y => [CV.s y]) xs = typ ByteArray.empty eS xs := rfl
@[simp] theorem raw_iff {C : Type} {a b : List (List C)} : raw a = raw b ↔ a = b := raw_inj
@[simp] theorem cnRs_raw (l : List (List CV)) : cnRs (raw l) = l.map cnR := by
  rw [cnRs_l, raw_l]
  exact List.map_congr_left fun x _ => (cnR_map x).symm
@[simp] theorem cnRs_nil : cnRs nilR = [] := by rw [cnRs_l, nilR_l]; rfl
@[simp] theorem cnRs_app (a b : Rows CV) : cnRs (appR a b) = cnRs a ++ cnRs b := by simp [cnRs_l, appR_l]
theorem cnRs_cut (a : Rows CV) {lo hi : Nat} (h : hi ≤ a.n) : cnRs (cutR a lo hi) = ((cnRs a).take hi).drop lo := by
  rw [cnRs_l, cutR_l a h, cnRs_l, List.map_drop, List.map_take]
theorem cnRs_typ {α : Type} {d : α} {g : α → List CV} (xs : List α) : cnRs (typ d g xs) = xs.map fun x => cnR (g x) := by
  rw [cnRs_l, typ_l, List.map_map]
  exact List.map_congr_left fun x _ => (cnR_map _).symm
theorem frz_typ {α : Type} {d : α} {g h : α → List CV} (e : ∀ x, frozenR (g x) = h x) (xs : List α) : frozenRs (typ d g xs) = typ d h xs := by
  simp only [typ, frozenRs, e]
@[simp] theorem frz_app (a b : Rows CV) : frozenRs (appR a b) = appR (frozenRs a) (frozenRs b) := by
  obtain ⟨n, f⟩ := a; obtain ⟨m, g⟩ := b
  simp only [appR, frozenRs]
  refine congrArg _ (funext fun k => ?_)
  by_cases h : k < n <;> simp only [h, if_true, if_false]
@[simp] theorem frz_raw (l : List (List CV)) : frozenRs (raw l) = raw (l.map frozenR) := by
  simp only [raw, frozenRs, List.length_map]
  refine congrArg _ (funext fun k => ?_)
  rw [List.getD_eq_getElem?_getD, List.getD_eq_getElem?_getD, List.getElem?_map]
  cases l[k]? <;> simp [frozenR]
@[simp] theorem frzR_nil : frozenR [] = [] := by simp only [frozenR]
@[simp] theorem frzR_cons (x : CV) (xs : List CV) : frozenR (x :: xs) = frozen x :: frozenR xs := by simp only [frozenR]
@[simp] theorem fr_ow (e : TypeId) (r : Rows CV) : frozen (.ow e r) = .sh e (frozenRs r) := by simp only [frozen]
@[simp] theorem fr_sh (e : TypeId) (r : Rows CV) : frozen (.sh e r) = .sh e r := by simp only [frozen]
@[simp] theorem fr_b (x : Bool) : frozen (.b x) = .b x := by simp only [frozen]
@[simp] theorem fr_n (k : IntKind) (x : Int) : frozen (.n k x) = .n k x := by simp only [frozen]
@[simp] theorem fr_s (x : ByteArray) : frozen (.s x) = .s x := by simp only [frozen]
theorem map_iff {α β : Type} {g : α → β} (hg : ∀ x y, g x = g y → x = y) {xs ys : List α} : xs.map g = ys.map g ↔ xs = ys :=
  ⟨fun h => (List.map_inj_right hg).1 h, fun h => by rw [h]⟩
def nI (x : Int) : List CV := [.n .i64 x]
def nS (x : ByteArray) : List CV := [.s x]
def nItemS (x : Item) : List CV := [.s x.key, .sh tI (raw (x.val.map nI))]
def nItemO (x : Item) : List CV := [.s x.key, .ow tI (raw (x.val.map nI))]
def nWrtS (x : Wrt) : List CV := [.s x.key, .b x.del, .sh tI (raw (x.val.map nI))]
def nWrtO (x : Wrt) : List CV := [.s x.key, .b x.del, .ow tI (raw (x.val.map nI))]
def nStoS (x : Sto) : List CV := [.sh tItem (raw (x.map nItemS))]
def nStoO (x : Sto) : List CV := [.ow tItem (raw (x.map nItemO))]
@[simp] theorem nI_d (x : Int) : nI x = [.n .i64 x] := rfl
@[simp] theorem nS_d (x : ByteArray) : nS x = [.s x] := rfl
@[simp] theorem nItemS_d (x : Item) : nItemS x = [.s x.key, .sh tI (raw (x.val.map nI))] := rfl
@[simp] theorem nItemO_d (x : Item) : nItemO x = [.s x.key, .ow tI (raw (x.val.map nI))] := rfl
@[simp] theorem nWrtS_d (x : Wrt) : nWrtS x = [.s x.key, .b x.del, .sh tI (raw (x.val.map nI))] := rfl
@[simp] theorem nWrtO_d (x : Wrt) : nWrtO x = [.s x.key, .b x.del, .ow tI (raw (x.val.map nI))] := rfl
@[simp] theorem nStoS_d (x : Sto) : nStoS x = [.sh tItem (raw (x.map nItemS))] := rfl
@[simp] theorem nStoO_d (x : Sto) : nStoO x = [.ow tItem (raw (x.map nItemO))] := rfl
@[simp] theorem nI_iff {xs ys : List Int} : xs.map nI = ys.map nI ↔ xs = ys := map_iff fun x y h => by simpa using h
@[simp] theorem nS_iff {xs ys : List ByteArray} : xs.map nS = ys.map nS ↔ xs = ys := map_iff fun x y h => by simpa using h
@[simp] theorem nItemS_iff {xs ys : List Item} : xs.map nItemS = ys.map nItemS ↔ xs = ys := map_iff fun x y h => by cases x; cases y; simpa using h
@[simp] theorem nItemO_iff {xs ys : List Item} : xs.map nItemO = ys.map nItemO ↔ xs = ys := map_iff fun x y h => by cases x; cases y; simpa using h
@[simp] theorem nWrtS_iff {xs ys : List Wrt} : xs.map nWrtS = ys.map nWrtS ↔ xs = ys := map_iff fun x y h => by cases x; cases y; simpa using h
@[simp] theorem nWrtO_iff {xs ys : List Wrt} : xs.map nWrtO = ys.map nWrtO ↔ xs = ys := map_iff fun x y h => by cases x; cases y; simpa using h
@[simp] theorem nStoS_iff {xs ys : List Sto} : xs.map nStoS = ys.map nStoS ↔ xs = ys := map_iff fun x y h => by simpa using h
@[simp] theorem nStoO_iff {xs ys : List Sto} : xs.map nStoO = ys.map nStoO ↔ xs = ys := map_iff fun x y h => by simpa using h
@[simp] theorem cI (xs : List Int) : cnRs (typ 0 eI xs) = xs.map nI := by rw [cnRs_typ]; simp [eI, nI]
@[simp] theorem cS (xs : List ByteArray) : cnRs (typ ByteArray.empty eS xs) = xs.map nS := by rw [cnRs_typ]; simp [eS, nS]
@[simp] theorem cItemS (xs : List Item) : cnRs (typ dItem eItemS xs) = xs.map nItemS := by rw [cnRs_typ]; refine List.map_congr_left fun x _ => ?_; simp [eItemS]
@[simp] theorem cItemO (xs : List Item) : cnRs (typ dItem eItemO xs) = xs.map nItemO := by rw [cnRs_typ]; refine List.map_congr_left fun x _ => ?_; simp [eItemO]
@[simp] theorem cWrtS (xs : List Wrt) : cnRs (typ dWrt eWrtS xs) = xs.map nWrtS := by rw [cnRs_typ]; refine List.map_congr_left fun x _ => ?_; simp [eWrtS]
@[simp] theorem cWrtO (xs : List Wrt) : cnRs (typ dWrt eWrtO xs) = xs.map nWrtO := by rw [cnRs_typ]; refine List.map_congr_left fun x _ => ?_; simp [eWrtO]
@[simp] theorem cStoS (xs : List Sto) : cnRs (typ [] eStoS xs) = xs.map nStoS := by rw [cnRs_typ]; refine List.map_congr_left fun x _ => ?_; simp [eStoS]
@[simp] theorem cStoO (xs : List Sto) : cnRs (typ [] eStoO xs) = xs.map nStoO := by rw [cnRs_typ]; refine List.map_congr_left fun x _ => ?_; simp [eStoO]
@[simp] theorem fI (xs : List Int) : frozenRs (typ 0 eI xs) = typ 0 eI xs := frz_typ (fun x => by simp [eI]) xs
@[simp] theorem fS (xs : List ByteArray) : frozenRs (typ ByteArray.empty eS xs) = typ ByteArray.empty eS xs := frz_typ (fun x => by simp [eS]) xs
@[simp] theorem fItemS (xs : List Item) : frozenRs (typ dItem eItemS xs) = typ dItem eItemS xs := frz_typ (fun x => by simp [eItemS]) xs
@[simp] theorem fItemO (xs : List Item) : frozenRs (typ dItem eItemO xs) = typ dItem eItemS xs := frz_typ (fun x => by simp [eItemS, eItemO]) xs
@[simp] theorem fWrtS (xs : List Wrt) : frozenRs (typ dWrt eWrtS xs) = typ dWrt eWrtS xs := frz_typ (fun x => by simp [eWrtS]) xs
@[simp] theorem fWrtO (xs : List Wrt) : frozenRs (typ dWrt eWrtO xs) = typ dWrt eWrtS xs := frz_typ (fun x => by simp [eWrtS, eWrtO]) xs
@[simp] theorem fStoS (xs : List Sto) : frozenRs (typ [] eStoS xs) = typ [] eStoS xs := frz_typ (fun x => by simp [eStoS]) xs
@[simp] theorem fStoO (xs : List Sto) : frozenRs (typ [] eStoO xs) = typ [] eStoS xs := frz_typ (fun x => by simp [eStoS, eStoO]) xs
theorem wrapN {x : Nat} (h : x + 1 ≤ 9223372036854775807) : IntKind.i64.wrap ((x : Int) + 1) = ((x + 1 : Nat) : Int) := by
  rw [IntWalk.i64_in _ (by omega)]; omega
theorem muN {n x : Nat} (h : x < n) : n - (x + 1) < n - x := by omega
theorem getD_lt {α : Type} {xs : List α} {i : Nat} {d : α} (h : i < xs.length) : xs.getD i d = xs[i] := by simp [List.getD_eq_getElem?_getD, h]
theorem any_hit {α : Type} {xs : List α} {p : α → Bool} {d : α} {i : Nat} (h : i < xs.length) (hp : p (xs.getD i d) = true) : xs.any p = true := by
  rw [getD_lt h] at hp
  exact List.any_eq_true.2 ⟨_, List.getElem_mem h, hp⟩
theorem any_miss {α : Type} {xs : List α} {p : α → Bool} {d : α} (h : ∀ j, j < xs.length → p (xs.getD j d) = false) : xs.any p = false := by
  refine List.any_eq_false.2 fun x hx => ?_
  obtain ⟨j, hj, rfl⟩ := List.getElem_of_mem hx
  have := h j hj
  rw [getD_lt hj] at this
  simp [this]
theorem all_hit {α : Type} {xs : List α} {p : α → Bool} {d : α} {i : Nat} (h : i < xs.length) (hp : p (xs.getD i d) = false) : xs.all p = false := by
  rw [getD_lt h] at hp
  exact List.all_eq_false.2 ⟨_, List.getElem_mem h, by simp [hp]⟩
theorem all_miss {α : Type} {xs : List α} {p : α → Bool} {d : α} (h : ∀ j, j < xs.length → p (xs.getD j d) = true) : xs.all p = true := by
  refine List.all_eq_true.2 fun x hx => ?_
  obtain ⟨j, hj, rfl⟩ := List.getElem_of_mem hx
  have := h j hj
  rwa [getD_lt hj] at this
theorem below_succ {P : Nat → Prop} {i : Nat} (h : ∀ j, j < i → P j) (hi : P i) : ∀ j, j < i + 1 → P j := fun j hj => by
  rcases Nat.lt_or_ge j i with h1 | h1
  · exact h j h1
  · obtain rfl : j = i := by omega
    exact hi
theorem ext_getD {α : Type} {xs ys : List α} {d : α} (hl : xs.length = ys.length) (h : ∀ j, j < xs.length → xs.getD j d = ys.getD j d) : xs = ys := by
  refine List.ext_getElem hl fun j h1 h2 => ?_
  have := h j h1
  rwa [getD_lt h1, getD_lt h2] at this
end Go.Proofs.AI

namespace Go.Proofs.AI
open Go.RowKit Go.Proofs
set_option linter.unusedVariables false
set_option linter.unusedSimpArgs false
set_option maxRecDepth 100000
def eqB (x y : ByteArray) : Bool := x.toList == y.toList
def inR (x y z : Int) : Bool := decide (y ≤ x) && decide (x ≤ z)
def opOk (o : Opr) : Bool := inR o.who 0 9 && inR o.inn 0 9 && inR o.code 0 9 && inR o.sec 0 99 && inR o.fam 0 9 && inR o.gen 0 99 &&
  (((o.kind == 1 || o.kind == 5) && o.code == 0 && o.sec == 0 && o.fam == 0 && o.gen == 0) || (o.kind == 2 && o.fam == 0 && o.gen == 0) || (o.kind == 3 && o.who == 0 && o.inn == 0 && o.gen == 0) || (o.kind == 4 && o.who == 0 && o.inn == 0 && o.code == 0 && o.sec == 0))
def valB (xs : List Int) : Bool := xs.all (inR · 0 9999) && inR xs.length 1 3
def dig (s : ByteArray) (i : Nat) : Bool := inR (byteAt s i) 48 57
def keyB (s : ByteArray) : Bool := inR s.size 2 3 && inR (byteAt s 0) 97 122 && (List.range s.size).all fun i => i == 0 || dig s i
theorem spec_l1In_ok (x : Int) (y : Int) (z : Int) : FunOK Tryz.prog 44 3 [] [(0, kI x), (1, kI y), (2, kI z)] (· = [(3, kB (inR x y z))]) := by
  refine fun_to (E := ⟨tab, ctOf [], 15, [], [(0, [0, 1, 2]), (1, [6])], [], [], [], []⟩) tab_ok mixed Tryz.func44 rfl Tryz.ntmps44 (rvs := [.tmp 6]) Tryz.results44 rfl fun hl => ?_
  refine cast (show ((decide (x ≥ y) = true → decide (x ≤ z) = inR x y z) ∧ (decide (x ≥ y) = false → false = inR x y z)) = _ by kernel_rfl) ?_
  refine ⟨fun h => ?_, fun h => ?_⟩ <;> simp_all [inR] <;> omega
def spec_l1In_c : Con Tryz.prog := ⟨44, 3, [.lend, .lend, .lend], [], Int × Int × Int, none, fun b => [(0, kI b.1), (1, kI b.2.1), (2, kI b.2.2)], fun b => [(3, kB (inR b.1 b.2.1 b.2.2))], [], fun b h => spec_l1In_ok (b.1) (b.2.1) (b.2.2)⟩
theorem spec_OpOk_ok (o : Opr) : FunOK Tryz.prog 16 1 [] [(0, kOp o)] (· = [(1, kB (opOk o))]) := by
  refine fun_to (E := ⟨tab, ctOf [spec_l1In_c], 105, [], [(0, [1]), (1, [1, 36]), (2, [2]), (3, [1, 38]), (4, [1, 38, 39]), (5, [1, 38, 39]), (6, [2]), (7, [1, 38, 60]), (8, [2]), (9, [1, 38, 70]), (10, [2]), (11, [1, 85]), (12, [2]), (13, [2])], [], [], [], []⟩) tab_ok mixed Tryz.func16 rfl Tryz.ntmps16 (rvs := [.tmp 2]) Tryz.results16 rfl fun hl => ?_
  refine cast (show (∃ (b : Int × Int × Int), (o.who = b.1 ∧ (0 : Int) = b.2.1 ∧ (9 : Int) = b.2.2) ∧ ((!inR b.1 b.2.1 b.2.2) = false → ∃ (b : Int × Int × Int), (o.inn = b.1 ∧ (0 : Int) = b.2.1 ∧ (9 : Int) = b.2.2) ∧ ((!inR b.1 b.2.1 b.2.2) = false → ∃ (b : Int × Int × Int), (o.code = b.1 ∧ (0 : Int) = b.2.1 ∧ (9 : Int) = b.2.2) ∧ ((!inR b.1 b.2.1 b.2.2) = false → ∃ (b : Int × Int × Int), (o.sec = b.1 ∧ (0 : Int) = b.2.1 ∧ (99 : Int) = b.2.2) ∧ ((!inR b.1 b.2.1 b.2.2) = false → ∃ (b : Int × Int × Int), (o.fam = b.1 ∧ (0 : Int) = b.2.1 ∧ (9 : Int) = b.2.2) ∧ ((!inR b.1 b.2.1 b.2.2) = false → ∃ (b : Int × Int × Int), (o.gen = b.1 ∧ (0 : Int) = b.2.1 ∧ (99 : Int) = b.2.2) ∧ ((!inR b.1 b.2.1 b.2.2) = true → false = opOk o) ∧ ((!inR b.1 b.2.1 b.2.2) = false → ((o.kind == (1 : Int)) = true → ((o.code == (0 : Int)) = true → ((o.sec == (0 : Int)) = true → ((o.fam == (0 : Int)) = true → (o.gen == (0 : Int)) = opOk o) ∧ ((o.fam == (0 : Int)) = false → false = opOk o)) ∧ ((o.sec == (0 : Int)) = false → false = opOk o)) ∧ ((o.code == (0 : Int)) = false → false = opOk o)) ∧ ((o.kind == (1 : Int)) = false → ((o.kind == (5 : Int)) = true → ((o.code == (0 : Int)) = true → ((o.sec == (0 : Int)) = true → ((o.fam == (0 : Int)) = true → (o.gen == (0 : Int)) = opOk o) ∧ ((o.fam == (0 : Int)) = false → false = opOk o)) ∧ ((o.sec == (0 : Int)) = false → false = opOk o)) ∧ ((o.code == (0 : Int)) = false → false = opOk o)) ∧ ((o.kind == (5 : Int)) = false → ((o.kind == (2 : Int)) = true → ((o.fam == (0 : Int)) = true → (o.gen == (0 : Int)) = opOk o) ∧ ((o.fam == (0 : Int)) = false → false = opOk o)) ∧ ((o.kind == (2 : Int)) = false → ((o.kind == (3 : Int)) = true → ((o.who == (0 : Int)) = true → ((o.inn == (0 : Int)) = true → (o.gen == (0 : Int)) = opOk o) ∧ ((o.inn == (0 : Int)) = false → false = opOk o)) ∧ ((o.who == (0 : Int)) = false → false = opOk o)) ∧ ((o.kind == (3 : Int)) = false → ((o.kind == (4 : Int)) = true → ((o.who == (0 : Int)) = true → ((o.inn == (0 : Int)) = true → ((o.code == (0 : Int)) = true → (o.sec == (0 : Int)) = opOk o) ∧ ((o.code == (0 : Int)) = false → false = opOk o)) ∧ ((o.inn == (0 : Int)) = false → false = opOk o)) ∧ ((o.who == (0 : Int)) = false → false = opOk o)) ∧ ((o.kind == (4 : Int)) = false → false = opOk o))))))) ∧ ((!inR b.1 b.2.1 b.2.2) = true → false = opOk o)) ∧ ((!inR b.1 b.2.1 b.2.2) = true → false = opOk o)) ∧ ((!inR b.1 b.2.1 b.2.2) = true → false = opOk o)) ∧ ((!inR b.1 b.2.1 b.2.2) = true → false = opOk o)) ∧ ((!inR b.1 b.2.1 b.2.2) = true → false = opOk o)) = _ by kernel_rfl) ?_
  simp only [Prod.exists, and_assoc, exists_eq_left', exists_eq_left, exists_and_left]
  repeat' (first | apply And.intro | intro)
  all_goals (simp_all [opOk])
def spec_OpOk_c : Con Tryz.prog := ⟨16, 1, [.lend], [], Opr, none, fun b => [(0, kOp b)], fun b => [(1, kB (opOk b))], [], fun b h => spec_OpOk_ok b⟩
theorem laws_jaInts_ok (xs : List Int) (ys : List Int) : FunOK Tryz.prog 47 2 [] [(0, k1 (sI xs)), (1, k1 (sI ys))] (· = [(2, kB (decide (xs = ys)))]) := by
  refine fun_to (E := ⟨tab, ctOf [], 26, [], [(0, [0, 1]), (1, [0, 1, 10]), (2, [4]), (3, [0, 1, 5]), (4, [0, 1, 5, 14]), (5, [0, 1, 5]), (6, [0, 1, 5, 25]), (7, [4]), (8, [4])], [(0, ⟨Nat, fun x => [(0, ⟨.one, [.c (.sh 3 (typ (0 : Int) eI xs))], []⟩), (1, ⟨.one, [.c (.sh 3 (typ (0 : Int) eI ys))], []⟩), (5, ⟨.one, [.c (.n IntKind.i64 (x : Int))], []⟩)]⟩)], [], [], []⟩) tab_ok mixed Tryz.func47 rfl Tryz.ntmps47 (rvs := [.tmp 4]) Tryz.results47 rfl fun hl => ?_
  refine cast (show ((((↑xs.length : Int) != (↑ys.length : Int)) = true → false = decide (xs = ys)) ∧ (((↑xs.length : Int) != (↑ys.length : Int)) = false → ∃ (pre : Nat → Prop), ∃ (μ : Nat → Nat), ∃ (x0 : Nat), (cnRs (typ (0 : Int) eI xs) = cnRs (typ (0 : Int) eI xs) ∧ cnRs (typ (0 : Int) eI ys) = cnRs (typ (0 : Int) eI ys) ∧ (0 : Int) = (↑x0 : Int)) ∧ pre x0 ∧ ∀ (x : Nat), pre x → (decide ((↑x : Int) < (↑xs.length : Int)) = true → ((0 : Int) ≤ (↑x : Int) ∧ (↑x : Int) < (↑xs.length : Int)) ∧ ((0 : Int) ≤ (↑x : Int) ∧ (↑x : Int) < (↑ys.length : Int)) ∧ ((xs.getD (↑x : Int).toNat (0 : Int) != ys.getD (↑x : Int).toNat (0 : Int)) = true → false = decide (xs = ys)) ∧ ((xs.getD (↑x : Int).toNat (0 : Int) != ys.getD (↑x : Int).toNat (0 : Int)) = false → ∃ (y : Nat), (cnRs (typ (0 : Int) eI xs) = cnRs (typ (0 : Int) eI xs) ∧ cnRs (typ (0 : Int) eI ys) = cnRs (typ (0 : Int) eI ys) ∧ IntKind.i64.wrap ((↑x : Int) + (1 : Int)) = (↑y : Int)) ∧ pre y ∧ μ y < μ x)) ∧ (decide ((↑x : Int) < (↑xs.length : Int)) = false → true = decide (xs = ys)))) = _ by kernel_rfl) ?_
  have hx : xs.length ≤ 9223372036854775807 := hl.1 _ (List.mem_singleton.2 rfl)
  refine ⟨fun h => ?_, fun h => ⟨fun i => i ≤ xs.length ∧ ∀ j, j < i → xs.getD j 0 = ys.getD j 0, fun i => xs.length - i, 0, by simp, by simp, fun x hp => ?_⟩⟩
  · simp only [bne_iff_ne, ne_eq] at h
    exact (decide_eq_false fun he => h (by rw [he])).symm
  · have hlen : xs.length = ys.length := by have : (xs.length : Int) = ys.length := by simpa [bne] using h
                                            omega
    obtain ⟨h1, h2⟩ := hp
    refine ⟨fun hlt => ?_, fun hge => ?_⟩
    · have hlt : x < xs.length := by simpa using hlt
      refine ⟨⟨by omega, by omega⟩, ⟨by omega, by omega⟩, fun he => ?_, fun he => ⟨x + 1, ⟨rfl, rfl, wrapN (by omega)⟩, ⟨by omega, below_succ h2 ?_⟩, muN hlt⟩⟩
      · simp only [Int.toNat_natCast, bne_iff_ne, ne_eq] at he
        exact (decide_eq_false fun h => he (by rw [h])).symm
      · simpa [bne] using he
    · have : x = xs.length := by simp at hge; omega
      subst this
      exact (decide_eq_true (ext_getD hlen h2)).symm
def laws_jaInts_c : Con Tryz.prog := ⟨47, 2, [.lend, .lend], [], List Int × List Int, none, fun b => [(0, k1 (sI b.1)), (1, k1 (sI b.2))], fun b => [(2, kB (decide (b.1 = b.2)))], [], fun b h => laws_jaInts_ok (b.1) (b.2)⟩
theorem laws_jaHas_ok (xs : List ByteArray) (k : ByteArray) : FunOK Tryz.prog 18 2 [] [(0, k1 (sS xs)), (1, kS k)] (· = [(2, kB (xs.any (eqB · k)))]) := by
  refine fun_to (E := ⟨tab, ctOf [], 18, [], [(0, [0, 1]), (1, [0, 1, 5]), (2, [0, 1, 5, 9]), (3, [0, 1, 5]), (4, [0, 1, 5, 17]), (5, [4]), (6, [4])], [(0, ⟨Nat, fun x => [(0, ⟨.one, [.c (.sh 9 (typ ByteArray.empty eS xs))], []⟩), (1, ⟨.one, [.c (.s k)], []⟩), (5, ⟨.one, [.c (.n IntKind.i64 (x : Int))], []⟩)]⟩)], [], [], []⟩) tab_ok mixed Tryz.func18 rfl Tryz.ntmps18 (rvs := [.tmp 4]) Tryz.results18 rfl fun hl => ?_
  refine cast (show (∃ (pre : Nat → Prop), ∃ (μ : Nat → Nat), ∃ (x0 : Nat), (cnRs (typ ByteArray.empty eS xs) = cnRs (typ ByteArray.empty eS xs) ∧ k = k ∧ (0 : Int) = (↑x0 : Int)) ∧ pre x0 ∧ ∀ (x : Nat), pre x → (decide ((↑x : Int) < (↑xs.length : Int)) = true → ((0 : Int) ≤ (↑x : Int) ∧ (↑x : Int) < (↑xs.length : Int)) ∧ (((xs.getD (↑x : Int).toNat ByteArray.empty).toList == k.toList) = true → true = xs.any fun (x : ByteArray) => eqB x k) ∧ (((xs.getD (↑x : Int).toNat ByteArray.empty).toList == k.toList) = false → ∃ (y : Nat), (cnRs (typ ByteArray.empty eS xs) = cnRs (typ ByteArray.empty eS xs) ∧ k = k ∧ IntKind.i64.wrap ((↑x : Int) + (1 : Int)) = (↑y : Int)) ∧ pre y ∧ μ y < μ x)) ∧ (decide ((↑x : Int) < (↑xs.length : Int)) = false → false = xs.any fun (x : ByteArray) => eqB x k)) = _ by kernel_rfl) ?_
  have hx : xs.length ≤ 9223372036854775807 := hl.1 _ (List.mem_singleton.2 rfl)
  refine ⟨fun i => i ≤ xs.length ∧ ∀ j, j < i → eqB (xs.getD j ByteArray.empty) k = false, fun i => xs.length - i, 0, by simp, by simp, fun x ⟨h1, h2⟩ => ⟨fun hlt => ?_, fun hge => ?_⟩⟩
  · have hlt : x < xs.length := by simpa using hlt
    exact ⟨⟨by omega, by omega⟩, fun he => (any_hit hlt he).symm, fun he => ⟨x + 1, ⟨rfl, rfl, wrapN (by omega)⟩, ⟨by omega, below_succ h2 he⟩, muN hlt⟩⟩
  · have : x = xs.length := by simp at hge; omega
    subst this
    exact (any_miss h2).symm
def laws_jaHas_c : Con Tryz.prog := ⟨18, 2, [.lend, .lend], [], List ByteArray × ByteArray, none, fun b => [(0, k1 (sS b.1)), (1, kS b.2)], fun b => [(2, kB (b.1.any (eqB · b.2)))], [], fun b h => laws_jaHas_ok (b.1) (b.2)⟩
theorem spec_l1Val_ok (xs : List Int) : FunOK Tryz.prog 121 1 [] [(0, k1 (sI xs))] (· = [(1, kB (valB xs))]) := by
  refine fun_to (E := ⟨tab, ctOf [spec_l1In_c], 19, [], [(0, [0]), (1, [0, 3]), (2, [0, 3, 7]), (3, [0, 3]), (4, [0, 3, 15]), (5, [2]), (6, [2])], [(0, ⟨Nat, fun x => [(0, ⟨.one, [.c (.sh 3 (typ (0 : Int) eI xs))], []⟩), (3, ⟨.one, [.c (.n IntKind.i64 (x : Int))], []⟩)]⟩)], [], [], []⟩) tab_ok mixed Tryz.func121 rfl Tryz.ntmps121 (rvs := [.tmp 2]) Tryz.results121 rfl fun hl => ?_
  refine cast (show (∃ (pre : Nat → Prop), ∃ (μ : Nat → Nat), ∃ (x0 : Nat), (cnRs (typ (0 : Int) eI xs) = cnRs (typ (0 : Int) eI xs) ∧ (0 : Int) = (↑x0 : Int)) ∧ pre x0 ∧ ∀ (x : Nat), pre x → (decide ((↑x : Int) < (↑xs.length : Int)) = true → ((0 : Int) ≤ (↑x : Int) ∧ (↑x : Int) < (↑xs.length : Int)) ∧ ∃ (b : Int × Int × Int), (xs.getD (↑x : Int).toNat (0 : Int) = b.1 ∧ (0 : Int) = b.2.1 ∧ (9999 : Int) = b.2.2) ∧ ((!inR b.1 b.2.1 b.2.2) = true → false = valB xs) ∧ ((!inR b.1 b.2.1 b.2.2) = false → ∃ (y : Nat), (cnRs (typ (0 : Int) eI xs) = cnRs (typ (0 : Int) eI xs) ∧ IntKind.i64.wrap ((↑x : Int) + (1 : Int)) = (↑y : Int)) ∧ pre y ∧ μ y < μ x)) ∧ (decide ((↑x : Int) < (↑xs.length : Int)) = false → ∃ (b : Int × Int × Int), ((↑xs.length : Int) = b.1 ∧ (1 : Int) = b.2.1 ∧ (3 : Int) = b.2.2) ∧ inR b.1 b.2.1 b.2.2 = valB xs)) = _ by kernel_rfl) ?_
  have hx : xs.length ≤ 9223372036854775807 := hl.1 _ (List.mem_singleton.2 rfl)
  refine ⟨fun i => i ≤ xs.length ∧ ∀ j, j < i → inR (xs.getD j 0) 0 9999 = true, fun i => xs.length - i, 0, by simp, by simp, fun x ⟨h1, h2⟩ => ⟨fun hlt => ?_, fun hge => ?_⟩⟩
  · have hlt : x < xs.length := by simpa using hlt
    refine ⟨⟨by omega, by omega⟩, (xs.getD x 0, 0, 9999), ⟨rfl, rfl, rfl⟩, fun he => ?_, fun he => ⟨x + 1, ⟨rfl, wrapN (by omega)⟩, ⟨by omega, below_succ h2 (by simpa using he)⟩, muN hlt⟩⟩
    rw [valB, all_hit (p := (inR · 0 9999)) hlt (by simpa using he)]; rfl
  · have : x = xs.length := by simp at hge; omega
    subst this
    exact ⟨(xs.length, 1, 3), ⟨rfl, rfl, rfl⟩, by rw [valB, all_miss (p := (inR · 0 9999)) h2]; rfl⟩
def spec_l1Val_c : Con Tryz.prog := ⟨121, 1, [.lend], [], List Int, none, fun b => [(0, k1 (sI b))], fun b => [(1, kB (valB b))], [], fun b h => spec_l1Val_ok b⟩
theorem spec_l1Key_ok (s : ByteArray) : FunOK Tryz.prog 120 1 [] [(0, kS s)] (· = [(1, kB (keyB s))]) := by
  refine fun_to (E := ⟨tab, ctOf [spec_l1In_c], 34, [], [(0, [0]), (1, [0, 17]), (2, [2]), (3, [0, 3]), (4, [0, 3, 21]), (5, [0, 3]), (6, [0, 3, 33]), (7, [2]), (8, [2])], [(0, ⟨Nat, fun x => [(0, ⟨.one, [.c (.s s)], []⟩), (3, ⟨.one, [.c (.n IntKind.i64 (x : Int))], []⟩)]⟩)], [], [], []⟩) tab_ok mixed Tryz.func120 rfl Tryz.ntmps120 (rvs := [.tmp 2]) Tryz.results120 rfl fun hl => ?_
  refine cast (show (∃ (b : Int × Int × Int), ((↑s.size : Int) = b.1 ∧ (2 : Int) = b.2.1 ∧ (3 : Int) = b.2.2) ∧ ((!inR b.1 b.2.1 b.2.2) = false → ((0 : Int) ≤ (0 : Int) ∧ (0 : Int) < (↑s.size : Int)) ∧ (decide (byteAt s (Int.toNat (0 : Int)) < (97 : Int)) = false → ((0 : Int) ≤ (0 : Int) ∧ (0 : Int) < (↑s.size : Int)) ∧ (decide (byteAt s (Int.toNat (0 : Int)) > (122 : Int)) = true → false = keyB s) ∧ (decide (byteAt s (Int.toNat (0 : Int)) > (122 : Int)) = false → ∃ (pre : Nat → Prop), ∃ (μ : Nat → Nat), ∃ (x0 : Nat), (s = s ∧ (1 : Int) = (↑x0 : Int)) ∧ pre x0 ∧ ∀ (x : Nat), pre x → (decide ((↑x : Int) < (↑s.size : Int)) = true → ((0 : Int) ≤ (↑x : Int) ∧ (↑x : Int) < (↑s.size : Int)) ∧ (decide (byteAt s (↑x : Int).toNat < (48 : Int)) = false → ((0 : Int) ≤ (↑x : Int) ∧ (↑x : Int) < (↑s.size : Int)) ∧ (decide (byteAt s (↑x : Int).toNat > (57 : Int)) = true → false = keyB s) ∧ (decide (byteAt s (↑x : Int).toNat > (57 : Int)) = false → ∃ (y : Nat), (s = s ∧ IntKind.i64.wrap ((↑x : Int) + (1 : Int)) = (↑y : Int)) ∧ pre y ∧ μ y < μ x)) ∧ (decide (byteAt s (↑x : Int).toNat < (48 : Int)) = true → false = keyB s)) ∧ (decide ((↑x : Int) < (↑s.size : Int)) = false → true = keyB s))) ∧ (decide (byteAt s (Int.toNat (0 : Int)) < (97 : Int)) = true → false = keyB s)) ∧ ((!inR b.1 b.2.1 b.2.2) = true → false = keyB s)) = _ by kernel_rfl) ?_
  refine ⟨(s.size, 2, 3), ⟨rfl, rfl, rfl⟩, fun h => ?_, fun h => by simp_all [keyB]⟩
  have hs : 2 ≤ s.size ∧ s.size ≤ 3 := by simp [inR] at h; omega
  have h0 : inR s.size 2 3 = true := by simpa using h
  refine ⟨⟨by omega, by omega⟩, fun ha => ⟨⟨by omega, by omega⟩, fun hb => ?_, fun hb => ?_⟩, fun ha => ?_⟩
  · simp [keyB, inR] at *; omega
  · have hc : inR (byteAt s 0) 97 122 = true := by simp [inR] at *; omega
    refine ⟨fun i => 1 ≤ i ∧ i ≤ s.size ∧ ∀ j, j < i → j = 0 ∨ dig s j = true, fun i => s.size - i, 1, by simp, ⟨by omega, by omega, fun j hj => .inl (by omega)⟩, fun x ⟨h1, h2, h3⟩ => ⟨fun hlt => ?_, fun hge => ?_⟩⟩
    · have hlt : x < s.size := by simpa using hlt
      have hno : dig s x = false → false = keyB s := fun hd => by
        rw [keyB, h0, hc]
        simp only [Bool.true_and]
        exact (List.all_eq_false.2 ⟨x, List.mem_range.2 hlt, by simp [hd]; omega⟩).symm
      refine ⟨⟨by omega, by omega⟩, fun hd => ⟨⟨by omega, by omega⟩, fun he => hno ?_, fun he => ⟨x + 1, ⟨rfl, wrapN (by omega)⟩, ⟨by omega, by omega, below_succ h3 (.inr ?_)⟩, muN hlt⟩⟩, fun hd => hno ?_⟩ <;> simp [dig, inR] at * <;> omega
    · have : x = s.size := by simp at hge; omega
      subst this
      rw [keyB, h0, hc]
      simp only [Bool.true_and]
      refine (List.all_eq_true.2 fun j hj => ?_).symm
      rcases h3 j (List.mem_range.1 hj) with h | h <;> simp [h]
  · simp [keyB, inR] at *; omega
def spec_l1Key_c : Con Tryz.prog := ⟨120, 1, [.lend], [], ByteArray, none, fun b => [(0, kS b)], fun b => [(1, kB (keyB b))], [], fun b h => spec_l1Key_ok b⟩
end Go.Proofs.AI

namespace Go.Proofs.AI
open Go.RowKit Go.Proofs
set_option linter.unusedVariables false
set_option linter.unusedSimpArgs false
set_option maxRecDepth 100000
def ltB (x y : ByteArray) : Bool := Op.bytesLess x.toList y.toList
def itemB (x : Item) : Bool := keyB x.key && valB x.val
def stoP (s : Sto) (k : Nat) : Bool := itemB (s.getD k dItem) && (k == 0 || ltB (s.getD (k - 1) dItem).key (s.getD k dItem).key)
def stoB (s : Sto) : Bool := decide (s.length ≤ 40) && (List.range s.length).all (stoP s)
theorem range_hit {n i : Nat} {p : Nat → Bool} (h : i < n) (hp : p i = false) : (List.range n).all p = false :=
  List.all_eq_false.2 ⟨i, List.mem_range.2 h, by simp [hp]⟩
theorem range_miss {n : Nat} {p : Nat → Bool} (h : ∀ i, i < n → p i = true) : (List.range n).all p = true :=
  List.all_eq_true.2 fun i hi => h i (List.mem_range.1 hi)
def getS (s : Sto) (k : ByteArray) : Option (List Int) := (s.find? fun x => eqB x.key k).map (·.val)
def wrtB (w : Wrt) : Bool := keyB w.key && (bif w.del then w.val.length == 0 else valB w.val)
def stepW (w : Wrt) (a : List Item × Bool) (it : Item) : List Item × Bool :=
  let b := bif !a.2 && ltB w.key it.key then (a.1 ++ [⟨w.key, w.val⟩], true) else a
  bif !eqB it.key w.key then (b.1 ++ [it], b.2) else bif !w.del then (b.1 ++ [⟨w.key, w.val⟩], true) else b
def writeS (s : Sto) (w : Wrt) : Sto :=
  let a := s.foldl (stepW w) ([], w.del)
  bif !a.2 then a.1 ++ [⟨w.key, w.val⟩] else a.1
theorem stepW_len (w : Wrt) (a : List Item × Bool) (it : Item) : (stepW w a it).1.length ≤ a.1.length + 2 := by
  simp only [stepW]
  cases !a.2 && ltB w.key it.key <;> cases !eqB it.key w.key <;> cases !w.del <;> simp
theorem stepW_mem (w : Wrt) (a : List Item × Bool) (it x : Item) (h : x ∈ (stepW w a it).1) : x ∈ a.1 ∨ x = it ∨ x = ⟨w.key, w.val⟩ := by
  simp only [stepW] at h
  revert h
  cases !a.2 && ltB w.key it.key <;> cases !eqB it.key w.key <;> cases !w.del <;> simp <;> grind
theorem writeS_mem (s : Sto) (w : Wrt) (x : Item) (h : x ∈ writeS s w) : x ∈ s ∨ x = ⟨w.key, w.val⟩ := by
  have key : ∀ (s : Sto) (a : List Item × Bool), x ∈ (s.foldl (stepW w) a).1 → x ∈ a.1 ∨ x ∈ s ∨ x = ⟨w.key, w.val⟩ := by
    intro s
    induction s with
    | nil => intro a h; exact .inl h
    | cons it s ih =>
      intro a h
      rcases ih _ h with h | h | h
      · rcases stepW_mem w a it x h with h | h | h
        · exact .inl h
        · exact .inr (.inl (by simp [h]))
        · exact .inr (.inr h)
      · exact .inr (.inl (by simp [h]))
      · exact .inr (.inr h)
  simp only [writeS] at h
  have h2 := key s ([], w.del)
  revert h
  cases !(s.foldl (stepW w) ([], w.del)).2
  · intro h; rcases h2 h with h | h
    · simp at h
    · exact h
  · simp only [cond_true, List.mem_append, List.mem_singleton]
    rintro (h | h)
    · rcases h2 h with h | h
      · simp at h
      · exact h
    · exact .inr h
def doL : Sto → List Wrt → Sto
  | x, [] => x
  | x, w :: r => bif !wrtB w then [] else bif decide (40 < (writeS x w).length) then [] else doL (writeS x w) r
def doS (s : Sto) (ws : List Wrt) : Sto := bif stoB s then doL s ws else []
theorem find_first {α : Type} {p : α → Bool} {d : α} : ∀ {xs : List α} {i : Nat}, i < xs.length → p (xs.getD i d) = true → (∀ j, j < i → p (xs.getD j d) = false) → xs.find? p = some (xs.getD i d)
  | x :: xs, 0, _, h, _ => by simp at h ⊢; simp [List.find?_cons, h]
  | x :: xs, i + 1, hi, h, hb => by
    have h0 := hb 0 (by omega)
    simp at h0
    simp only [List.find?_cons, h0]
    have := find_first (p := p) (d := d) (xs := xs) (i := i) (by simpa using hi) (by simpa using h) (fun j hj => by simpa using hb (j + 1) (by omega))
    simpa using this
theorem find_none {α : Type} {p : α → Bool} {d : α} {xs : List α} (h : ∀ j, j < xs.length → p (xs.getD j d) = false) : xs.find? p = none := by
  refine List.find?_eq_none.2 fun x hx => ?_
  obtain ⟨j, hj, rfl⟩ := List.getElem_of_mem hx
  have := h j hj
  rw [getD_lt hj] at this
  simp [this]
theorem take_succ {α : Type} {d : α} {xs : List α} {i : Nat} (h : i < xs.length) : xs.take (i + 1) = xs.take i ++ [xs.getD i d] := by
  rw [getD_lt h, List.take_succ_eq_append_getElem h]
theorem fold_succ {α β : Type} {d : α} {f : β → α → β} {b : β} {xs : List α} {i : Nat} (h : i < xs.length) : (xs.take (i + 1)).foldl f b = f ((xs.take i).foldl f b) (xs.getD i d) := by
  rw [take_succ h (d := d), List.foldl_append]; rfl
theorem drop_at {α : Type} {d : α} {xs : List α} {i : Nat} (h : i < xs.length) : xs.drop i = xs.getD i d :: xs.drop (i + 1) := by
  rw [getD_lt h, List.drop_eq_getElem_cons h]
theorem ygt {n k : Nat} (h : decide ((n : Int) > (k : Int)) = true) : k < n := by simpa using h
theorem ngt {n k : Nat} (h : decide ((n : Int) > (k : Int)) = false) : n ≤ k := by simp at h; omega
theorem nlt {x n : Nat} (h : decide ((x : Int) < (n : Int)) = false) : n ≤ x := by simp at h; omega
theorem ylt {x n : Nat} (h : decide ((x : Int) < (n : Int)) = true) : x < n := by simpa using h
theorem valB_len {v : List Int} (h : valB v = true) : v.length ≤ 3 := by
  simp [valB, inR] at h; omega
def small3 (s : Sto) : Prop := s.length ≤ 40 ∧ ∀ x ∈ s, x.val.length ≤ 3
theorem wrtB_len {w : Wrt} (h : wrtB w = true) : w.val.length ≤ 3 := by
  simp only [wrtB, Bool.and_eq_true] at h
  cases hd : w.del with
  | true => simp [hd] at h; simp [h.2]
  | false => rw [hd] at h; exact valB_len h.2
theorem stoB_small {s : Sto} (h : stoB s = true) : small3 s := by
  simp only [stoB, Bool.and_eq_true, decide_eq_true_eq, List.all_eq_true, List.mem_range] at h
  refine ⟨h.1, fun x hx => ?_⟩
  obtain ⟨j, hj, rfl⟩ := List.getElem_of_mem hx
  have := h.2 j hj
  rw [stoP, getD_lt hj, Bool.and_eq_true, itemB, Bool.and_eq_true] at this
  exact valB_len this.1.2
theorem exists_wrt {p : Wrt → Prop} : (∃ w, p w) ↔ ∃ k d v, p ⟨k, d, v⟩ := ⟨fun ⟨w, h⟩ => ⟨w.key, w.del, w.val, h⟩, fun ⟨k, d, v, h⟩ => ⟨⟨k, d, v⟩, h⟩⟩
theorem writeS_small {s : Sto} {w : Wrt} (hs : small3 s) (hw : wrtB w = true) (h : (writeS s w).length ≤ 40) : small3 (writeS s w) := by
  refine ⟨h, fun x hx => ?_⟩
  rcases writeS_mem s w x hx with h1 | rfl
  · exact hs.2 x h1
  · exact wrtB_len hw
def small (s : Sto) : Prop := s.length ≤ 1000 ∧ ∀ x ∈ s, x.val.length ≤ 1000
theorem small_of {s : Sto} (h : small3 s) : small s := ⟨by have := h.1; omega, fun x hx => by have := h.2 x hx; omega⟩
theorem spec_StoOk_ok (s : Sto) : FunOK Tryz.prog 93 1 [] [(0, kSto s)] (· = [(1, kB (stoB s))]) := by
  refine fun_to (E := ⟨tab, ctOf [spec_l1Key_c, spec_l1Val_c], 53, [], [(0, [1]), (1, [1, 7]), (2, [2]), (3, [1, 3]), (4, [1, 3, 12]), (5, [1, 3]), (6, [1, 3, 52]), (7, [2]), (8, [2])], [(0, ⟨Nat, fun x => [(1, ⟨.box, [.c (.sh 75 (typ dItem eItemS s))], []⟩), (3, ⟨.one, [.c (.n IntKind.i64 (x : Int))], []⟩)]⟩)], [], [], []⟩) tab_ok mixed Tryz.func93 rfl Tryz.ntmps93 (rvs := [.tmp 2]) Tryz.results93 rfl fun hl => ?_
  refine cast (show ((decide ((↑(List.length s) : Int) > (40 : Int)) = true → false = stoB s) ∧ (decide ((↑(List.length s) : Int) > (40 : Int)) = false → ∃ (pre : Nat → Prop), ∃ (μ : Nat → Nat), ∃ (x0 : Nat), (cnRs (typ dItem eItemS s) = cnRs (typ dItem eItemS s) ∧ (0 : Int) = (↑x0 : Int)) ∧ pre x0 ∧ ∀ (x : Nat), pre x → (decide ((↑x : Int) < (↑(List.length s) : Int)) = true → ((0 : Int) ≤ (↑x : Int) ∧ (↑x : Int) < (↑(List.length s) : Int)) ∧ ∃ (b : ByteArray), (List.getD s (↑x : Int).toNat dItem).key = b ∧ ((!keyB b) = false → ((0 : Int) ≤ (↑x : Int) ∧ (↑x : Int) < (↑(List.length s) : Int)) ∧ ∃ (b : List Int), cnRs (typ (0 : Int) eI (List.getD s (↑x : Int).toNat dItem).val) = cnRs (typ (0 : Int) eI b) ∧ ((!valB b) = false → (decide ((↑x : Int) > (0 : Int)) = true → ((0 : Int) ≤ IntKind.i64.wrap ((↑x : Int) - (1 : Int)) ∧ IntKind.i64.wrap ((↑x : Int) - (1 : Int)) < (↑(List.length s) : Int)) ∧ ((0 : Int) ≤ (↑x : Int) ∧ (↑x : Int) < (↑(List.length s) : Int)) ∧ ((!Op.bytesLess (List.getD s (IntKind.i64.wrap ((↑x : Int) - (1 : Int))).toNat dItem).key.toList (List.getD s (↑x : Int).toNat dItem).key.toList) = true → false = stoB s) ∧ ((!Op.bytesLess (List.getD s (IntKind.i64.wrap ((↑x : Int) - (1 : Int))).toNat dItem).key.toList (List.getD s (↑x : Int).toNat dItem).key.toList) = false → ∃ (y : Nat), (cnRs (typ dItem eItemS s) = cnRs (typ dItem eItemS s) ∧ IntKind.i64.wrap ((↑x : Int) + (1 : Int)) = (↑y : Int)) ∧ pre y ∧ μ y < μ x)) ∧ (decide ((↑x : Int) > (0 : Int)) = false → ∃ (y : Nat), (cnRs (typ dItem eItemS s) = cnRs (typ dItem eItemS s) ∧ IntKind.i64.wrap ((↑x : Int) + (1 : Int)) = (↑y : Int)) ∧ pre y ∧ μ y < μ x)) ∧ ((!valB b) = true → false = stoB s)) ∧ ((!keyB b) = true → false = stoB s)) ∧ (decide ((↑x : Int) < (↑(List.length s) : Int)) = false → true = stoB s))) = _ by kernel_rfl) ?_
  have hx : s.length ≤ 9223372036854775807 := hl.1 _ (List.mem_singleton.2 rfl)
  refine ⟨fun h => ?_, fun h => ⟨fun i => i ≤ s.length ∧ ∀ j, j < i → stoP s j = true, fun i => s.length - i, 0, by simp, by simp, fun x ⟨h1, h2⟩ => ⟨fun hlt => ?_, fun hge => ?_⟩⟩⟩
  · simp [stoB, show ¬ s.length ≤ 40 by simp at h; omega]
  · have hlt : x < s.length := by simpa using hlt
    have bad : stoP s x = false → false = stoB s := fun hp => by simp [stoB, range_hit hlt hp]
    have go : stoP s x = true → ∃ (y : Nat), (cnRs (typ dItem eItemS s) = cnRs (typ dItem eItemS s) ∧ IntKind.i64.wrap ((x : Int) + 1) = (y : Int)) ∧ (y ≤ s.length ∧ ∀ j, j < y → stoP s j = true) ∧ s.length - y < s.length - x := fun hp =>
      ⟨x + 1, ⟨rfl, wrapN (by omega)⟩, ⟨by omega, below_succ h2 hp⟩, muN hlt⟩
    refine ⟨⟨by omega, by omega⟩, _, rfl, fun hk => ⟨⟨by omega, by omega⟩, _, rfl, fun hv => ⟨fun h0 => ?_, fun h0 => go ?_⟩, fun hv => bad ?_⟩, fun hk => bad ?_⟩
    · have h0 : 0 < x := by simpa using h0
      rw [show IntKind.i64.wrap ((x : Int) - 1) = ((x - 1 : Nat) : Int) by rw [IntWalk.i64_in _ (by omega)]; omega]
      simp only [Int.toNat_natCast] at *
      refine ⟨⟨by omega, by omega⟩, ⟨by omega, by omega⟩, fun h => bad ?_, fun h => go ?_⟩
      · simp [stoP, ltB, show x ≠ 0 by omega]; intro _; simpa using h
      · simp_all [stoP, ltB, itemB]
    · simp at h0; subst h0; simp_all [stoP, itemB]
    · simp_all [stoP, itemB]
    · simp_all [stoP, itemB]
  · have : x = s.length := by simp at hge; omega
    subst this
    simp [stoB, range_miss h2]; simp at h; omega
def spec_StoOk_c : Con Tryz.prog := ⟨93, 1, [.lend], [], Sto, none, fun b => [(0, kSto b)], fun b => [(1, kB (stoB b))], [], fun b h => spec_StoOk_ok b⟩
theorem spec_l1Get_ok (s : Sto) (k : ByteArray) (hpre : small s) : FunOK Tryz.prog 101 2 [] [(0, kSto s), (1, kS k)] (· = [(2, ⟨.tup [(false, 1), (false, 1)], [.c (oI ((getS s k).getD [])), .c (.b (getS s k).isSome)], []⟩)]) := by
  refine fun_to (E := ⟨tab, ctOf [], 31, [], [(0, [1, 2, 22, 23, 24, 25, 26, 27, 28, 29, 30]), (1, [1, 2, 6, 22, 23, 24, 25, 26, 27, 28, 29, 30]), (2, [1, 2, 6, 11, 22, 23, 24, 25, 26, 27, 28, 29, 30]), (3, [1, 2, 6, 22, 23, 24, 25, 26, 27, 28, 29, 30]), (4, [1, 2, 6, 21, 22, 23, 24, 25, 26, 27, 28, 29, 30]), (5, [2, 4, 5, 22, 23, 24, 25, 26, 27, 28, 29, 30]), (6, [2, 4, 5, 22, 23, 24, 25, 26, 27, 28, 29, 30])], [(0, ⟨Nat, fun x => [(1, ⟨.one, [.c (.s k)], []⟩), (2, ⟨.box, [.c (.sh 75 (typ dItem eItemS s))], []⟩), (6, ⟨.one, [.c (.n IntKind.i64 (x : Int))], []⟩)]⟩)], [], [], []⟩) tab_ok mixed Tryz.func101 rfl Tryz.ntmps101 (rvs := [.tmp 4, .tmp 5]) Tryz.results101 rfl fun hl => ?_
  refine cast (show (∃ (pre : Nat → Prop), ∃ (μ : Nat → Nat), ∃ (x0 : Nat), (k = k ∧ cnRs (typ dItem eItemS s) = cnRs (typ dItem eItemS s) ∧ (0 : Int) = (↑x0 : Int)) ∧ pre x0 ∧ ∀ (x : Nat), pre x → (decide ((↑x : Int) < (↑(List.length s) : Int)) = true → ((0 : Int) ≤ (↑x : Int) ∧ (↑x : Int) < (↑(List.length s) : Int)) ∧ (((List.getD s (↑x : Int).toNat dItem).key.toList == k.toList) = true → ((0 : Int) ≤ (↑x : Int) ∧ (↑x : Int) < (↑(List.length s) : Int)) ∧ ((0 : Nat) + (List.getD s (↑x : Int).toNat dItem).val.length) * (8 : Nat) ≤ (140737488355328 : Nat) ∧ cnRs (appR (raw []) (typ (0 : Int) eI (List.getD s (↑x : Int).toNat dItem).val)) = cnRs (typ (0 : Int) eI ((getS s k).getD [])) ∧ true = (getS s k).isSome) ∧ (((List.getD s (↑x : Int).toNat dItem).key.toList == k.toList) = false → ∃ (y : Nat), (k = k ∧ cnRs (typ dItem eItemS s) = cnRs (typ dItem eItemS s) ∧ IntKind.i64.wrap ((↑x : Int) + (1 : Int)) = (↑y : Int)) ∧ pre y ∧ μ y < μ x)) ∧ (decide ((↑x : Int) < (↑(List.length s) : Int)) = false → cnRs (raw []) = cnRs (typ (0 : Int) eI ((getS s k).getD [])) ∧ false = (getS s k).isSome)) = _ by kernel_rfl) ?_
  have hx : s.length ≤ 9223372036854775807 := hl.1 _ (List.mem_singleton.2 rfl)
  refine ⟨fun i => i ≤ s.length ∧ ∀ j, j < i → eqB (s.getD j dItem).key k = false, fun i => s.length - i, 0, by simp, by simp, fun x ⟨h1, h2⟩ => ⟨fun hlt => ?_, fun hge => ?_⟩⟩
  · have hlt : x < s.length := by simpa using hlt
    refine ⟨⟨by omega, by omega⟩, fun he => ?_, fun he => ⟨x + 1, ⟨rfl, rfl, wrapN (by omega)⟩, ⟨by omega, below_succ h2 he⟩, muN hlt⟩⟩
    have hg : getS s k = some (s.getD x dItem).val := by
      simp only [getS, find_first (p := fun y : Item => eqB y.key k) (d := dItem) hlt he h2, Option.map_some]
    have hv := hpre.2 (s.getD x dItem) (by rw [getD_lt hlt]; exact List.getElem_mem hlt)
    refine ⟨⟨by omega, by omega⟩, by simp only [Int.toNat_natCast]; omega, by simp [hg], by simp [hg]⟩
  · have : x = s.length := by simp at hge; omega
    subst this
    have hg : getS s k = none := by simp only [getS, find_none (p := fun y : Item => eqB y.key k) (d := dItem) h2, Option.map_none]
    simp [hg]
def spec_l1Get_c : Con Tryz.prog := ⟨101, 2, [.lend, .lend], [], Sto × ByteArray, some fun b => small b.1, fun b => [(0, kSto b.1), (1, kS b.2)], fun b => [(2, ⟨.tup [(false, 1), (false, 1)], [.c (oI ((getS b.1 b.2).getD [])), .c (.b (getS b.1 b.2).isSome)], []⟩)], [], fun b h => spec_l1Get_ok (b.1) (b.2) h⟩
theorem spec_l1Copy_ok (s : Sto) (hpre : small s) : FunOK Tryz.prog 85 1 [] [(0, kSto s)] (· = [(1, ⟨.agg, [.c (oItems s)], []⟩)]) := by
  refine fun_to (E := ⟨tab, ctOf [], 34, [], [(0, [1, 2, 3, 33]), (1, [1, 2, 3, 33]), (2, [1, 2, 3, 4, 33]), (3, [1, 2, 3, 4, 10, 33]), (4, [1, 2, 3, 4, 33]), (5, [1, 2, 3, 4, 33]), (6, [2, 3, 33])], [(0, ⟨List Item × Nat, fun x => [(1, ⟨.box, [.c (.sh 75 (typ dItem eItemS s))], []⟩), (2, ⟨.box, [.c (.ow 75 nilR)], []⟩), (3, ⟨.box, [.c (oItems (x.1))], []⟩), (4, ⟨.one, [.c (.n IntKind.i64 (x.2 : Int))], []⟩)]⟩)], [], [], []⟩) tab_ok mixed Tryz.func85 rfl Tryz.ntmps85 (rvs := [.cell 2 35]) Tryz.results85 rfl fun hl => ?_
  refine cast (show (∃ (pre : List Item × Nat → Prop), ∃ (μ : List Item × Nat → Nat), ∃ (x0 : List Item × Nat), (cnRs (typ dItem eItemS s) = cnRs (typ dItem eItemS s) ∧ cnRs nilR = cnRs nilR ∧ cnRs nilR = cnRs (typ dItem eItemO x0.1) ∧ (0 : Int) = (↑x0.2 : Int)) ∧ pre x0 ∧ ∀ (x : List Item × Nat), pre x → (decide ((↑x.2 : Int) < (↑(List.length s) : Int)) = true → ((0 : Int) ≤ (↑x.2 : Int) ∧ (↑x.2 : Int) < (↑(List.length s) : Int)) ∧ ((0 : Int) ≤ (↑x.2 : Int) ∧ (↑x.2 : Int) < (↑(List.length s) : Int)) ∧ ((0 : Nat) + (List.getD s (↑x.2 : Int).toNat dItem).val.length) * (8 : Nat) ≤ (140737488355328 : Nat) ∧ (x.1.length + (1 : Nat)) * (40 : Nat) ≤ (140737488355328 : Nat) ∧ ∃ (y : List Item × Nat), (cnRs (typ dItem eItemS s) = cnRs (typ dItem eItemS s) ∧ cnRs nilR = cnRs nilR ∧ cnRs (appR (typ dItem eItemO x.1) (raw [[CV.s (List.getD s (↑x.2 : Int).toNat dItem).key, CV.ow (3 : Nat) (appR (raw []) (typ (0 : Int) eI (List.getD s (↑x.2 : Int).toNat dItem).val))]])) = cnRs (typ dItem eItemO y.1) ∧ IntKind.i64.wrap ((↑x.2 : Int) + (1 : Int)) = (↑y.2 : Int)) ∧ pre y ∧ μ y < μ x) ∧ (decide ((↑x.2 : Int) < (↑(List.length s) : Int)) = false → cnRs (typ dItem eItemO x.1) = cnRs (typ dItem eItemO s))) = _ by kernel_rfl) ?_
  have hx : s.length ≤ 9223372036854775807 := hl.1 _ (List.mem_singleton.2 rfl)
  have hs := hpre.1
  refine ⟨fun x => x.2 ≤ s.length ∧ x.1 = s.take x.2, fun x => s.length - x.2, ([], 0), by simp, by simp, fun x ⟨h1, h2⟩ => ⟨fun hlt => ?_, fun hge => ?_⟩⟩
  · have hlt := ylt hlt
    have hv := hpre.2 (s.getD x.2 dItem) (by rw [getD_lt hlt]; exact List.getElem_mem hlt)
    have hn : x.1.length = x.2 := by rw [h2]; simp; omega
    refine ⟨⟨by omega, by omega⟩, ⟨by omega, by omega⟩, by simp only [Int.toNat_natCast]; omega, by omega, (x.1 ++ [s.getD x.2 dItem], x.2 + 1), ⟨rfl, rfl, by simp, wrapN (by omega)⟩, ⟨by simp; omega, ?_⟩, muN hlt⟩
    simp only [h2]; exact (take_succ hlt).symm
  · have : x.2 = s.length := by have := nlt hge; omega
    simp [h2, this]
def spec_l1Copy_c : Con Tryz.prog := ⟨85, 1, [.lend], [], Sto, some fun b => small b, fun b => [(0, kSto b)], fun b => [(1, ⟨.agg, [.c (oItems b)], []⟩)], [], fun b h => spec_l1Copy_ok b h⟩
theorem spec_WrtOk_ok (w : Wrt) : FunOK Tryz.prog 113 1 [] [(0, kWrt w)] (· = [(1, kB (wrtB w))]) := by
  refine fun_to (E := ⟨tab, ctOf [spec_l1Key_c, spec_l1Val_c], 22, [], [(0, [1]), (1, [1, 4]), (2, [2]), (3, [2])], [], [], [], []⟩) tab_ok mixed Tryz.func113 rfl Tryz.ntmps113 (rvs := [.tmp 2]) Tryz.results113 rfl fun hl => ?_
  refine cast (show ((w.del = true → ∃ (b : ByteArray), w.key = b ∧ (keyB b = true → ((↑w.val.length : Int) == (0 : Int)) = wrtB w) ∧ (keyB b = false → false = wrtB w)) ∧ (w.del = false → ∃ (b : ByteArray), w.key = b ∧ (keyB b = true → ∃ (b : List Int), cnRs (typ (0 : Int) eI w.val) = cnRs (typ (0 : Int) eI b) ∧ valB b = wrtB w) ∧ (keyB b = false → false = wrtB w))) = _ by kernel_rfl) ?_
  simp only [cI, nI_iff, exists_eq_left', wrtB]
  cases w.del <;> cases keyB w.key <;> simp [BEq.beq] <;> exact decide_eq_decide.2 (by omega)
def spec_WrtOk_c : Con Tryz.prog := ⟨113, 1, [.lend], [], Wrt, none, fun b => [(0, kWrt b)], fun b => [(1, kB (wrtB b))], [], fun b h => spec_WrtOk_ok b⟩
theorem spec_l1Write_ok (s : Sto) (w : Wrt) (hpre : small s ∧ w.val.length ≤ 1000) : FunOK Tryz.prog 114 2 [] [(0, kSto s), (1, kWrt w)] (· = [(2, ⟨.agg, [.c (mItems (writeS s w))], []⟩)]) := by
  refine fun_to (E := ⟨tab, ctOf [], 86, [], [(0, [2, 3, 4, 5, 85]), (1, [2, 3, 4, 5, 85]), (2, [2, 3, 4, 5, 6, 85]), (3, [2, 3, 4, 5, 6, 7, 85]), (4, [2, 3, 4, 5, 6, 7, 16, 85]), (5, [2, 3, 4, 5, 6, 7, 85]), (6, [2, 3, 4, 5, 6, 7, 8, 85]), (7, [2, 3, 4, 5, 6, 7, 8, 32, 85]), (8, [2, 3, 4, 5, 7, 8, 85]), (9, [2, 3, 4, 5, 6, 7, 8, 85]), (10, [2, 3, 4, 5, 6, 7, 8, 49, 85]), (11, [2, 3, 4, 5, 6, 7, 85]), (12, [2, 3, 4, 5, 6, 7, 58, 85]), (13, [2, 3, 4, 5, 7, 85]), (14, [2, 3, 4, 5, 6, 7, 85]), (15, [3, 4, 5, 72, 85]), (16, [4, 5, 85]), (17, [4, 5, 85])], [(0, ⟨List Item × Bool × Nat, fun x => [(2, ⟨.box, [.c (.sh 75 (typ dItem eItemS s))], []⟩), (3, ⟨.box, [.c (.s w.key), .c (.b w.del), .c (.sh 3 (typ (0 : Int) eI w.val))], []⟩), (4, ⟨.box, [.c (.ow 75 nilR)], []⟩), (5, ⟨.box, [.c (mItems (x.1))], []⟩), (6, ⟨.one, [.c (.b (x.2.1))], []⟩), (7, ⟨.one, [.c (.n IntKind.i64 (x.2.2 : Int))], []⟩)]⟩)], [(8, [(8, [40])]), (13, [(8, [66])]), (16, [(8, [80])])], [], []⟩) tab_ok mixed Tryz.func114 rfl Tryz.ntmps114 (rvs := [.cell 4 35]) Tryz.results114 rfl fun hl => ?_
  refine cast (show (∃ (pre : List Item × Bool × Nat → Prop), ∃ (μ : List Item × Bool × Nat → Nat), ∃ (x0 : List Item × Bool × Nat), (cnRs (typ dItem eItemS s) = cnRs (typ dItem eItemS s) ∧ (w.key = w.key ∧ w.del = w.del ∧ cnRs (typ (0 : Int) eI w.val) = cnRs (typ (0 : Int) eI w.val)) ∧ cnRs nilR = cnRs nilR ∧ cnRs nilR = cnRs (typ dItem eItemS x0.1) ∧ w.del = x0.2.1 ∧ (0 : Int) = (↑x0.2.2 : Int)) ∧ pre x0 ∧ ∀ (x : List Item × Bool × Nat), pre x → (decide ((↑x.2.2 : Int) < (↑(List.length s) : Int)) = true → ((0 : Int) ≤ (↑x.2.2 : Int) ∧ (↑x.2.2 : Int) < (↑(List.length s) : Int)) ∧ ((!x.2.1) = true → (Op.bytesLess w.key.toList (List.getD s (↑x.2.2 : Int).toNat dItem).key.toList = true → ((0 : Nat) + w.val.length) * (8 : Nat) ≤ (140737488355328 : Nat) ∧ (x.1.length + (1 : Nat)) * (40 : Nat) ≤ (140737488355328 : Nat) ∧ ((!(List.getD s (↑x.2.2 : Int).toNat dItem).key.toList == w.key.toList) = true → (x.1.length + (1 : Nat) + (1 : Nat)) * (40 : Nat) ≤ (140737488355328 : Nat) ∧ ∃ (y : List Item × Bool × Nat), (cnRs (typ dItem eItemS s) = cnRs (typ dItem eItemS s) ∧ (w.key = w.key ∧ w.del = w.del ∧ cnRs (typ (0 : Int) eI w.val) = cnRs (typ (0 : Int) eI w.val)) ∧ cnRs nilR = cnRs nilR ∧ cnRs (appR (appR (typ dItem eItemS x.1) (raw [[CV.s w.key, CV.sh (3 : Nat) (frozenRs (appR (raw []) (typ (0 : Int) eI w.val)))]])) (raw [[CV.s (List.getD s (↑x.2.2 : Int).toNat dItem).key, CV.sh (3 : Nat) (typ (0 : Int) eI (List.getD s (↑x.2.2 : Int).toNat dItem).val)]])) = cnRs (typ dItem eItemS y.1) ∧ true = y.2.1 ∧ IntKind.i64.wrap ((↑x.2.2 : Int) + (1 : Int)) = (↑y.2.2 : Int)) ∧ pre y ∧ μ y < μ x) ∧ ((!(List.getD s (↑x.2.2 : Int).toNat dItem).key.toList == w.key.toList) = false → ((!w.del) = true → ((0 : Nat) + w.val.length) * (8 : Nat) ≤ (140737488355328 : Nat) ∧ (x.1.length + (1 : Nat) + (1 : Nat)) * (40 : Nat) ≤ (140737488355328 : Nat) ∧ ∃ (y : List Item × Bool × Nat), (cnRs (typ dItem eItemS s) = cnRs (typ dItem eItemS s) ∧ (w.key = w.key ∧ w.del = w.del ∧ cnRs (typ (0 : Int) eI w.val) = cnRs (typ (0 : Int) eI w.val)) ∧ cnRs nilR = cnRs nilR ∧ cnRs (appR (appR (typ dItem eItemS x.1) (raw [[CV.s w.key, CV.sh (3 : Nat) (frozenRs (appR (raw []) (typ (0 : Int) eI w.val)))]])) (raw [[CV.s w.key, CV.sh (3 : Nat) (frozenRs (appR (raw []) (typ (0 : Int) eI w.val)))]])) = cnRs (typ dItem eItemS y.1) ∧ true = y.2.1 ∧ IntKind.i64.wrap ((↑x.2.2 : Int) + (1 : Int)) = (↑y.2.2 : Int)) ∧ pre y ∧ μ y < μ x) ∧ ((!w.del) = false → ∃ (y : List Item × Bool × Nat), (cnRs (typ dItem eItemS s) = cnRs (typ dItem eItemS s) ∧ (w.key = w.key ∧ w.del = w.del ∧ cnRs (typ (0 : Int) eI w.val) = cnRs (typ (0 : Int) eI w.val)) ∧ cnRs nilR = cnRs nilR ∧ cnRs (appR (typ dItem eItemS x.1) (raw [[CV.s w.key, CV.sh (3 : Nat) (frozenRs (appR (raw []) (typ (0 : Int) eI w.val)))]])) = cnRs (typ dItem eItemS y.1) ∧ true = y.2.1 ∧ IntKind.i64.wrap ((↑x.2.2 : Int) + (1 : Int)) = (↑y.2.2 : Int)) ∧ pre y ∧ μ y < μ x))) ∧ (Op.bytesLess w.key.toList (List.getD s (↑x.2.2 : Int).toNat dItem).key.toList = false → ((!(List.getD s (↑x.2.2 : Int).toNat dItem).key.toList == w.key.toList) = true → (x.1.length + (1 : Nat)) * (40 : Nat) ≤ (140737488355328 : Nat) ∧ ∃ (y : List Item × Bool × Nat), (cnRs (typ dItem eItemS s) = cnRs (typ dItem eItemS s) ∧ (w.key = w.key ∧ w.del = w.del ∧ cnRs (typ (0 : Int) eI w.val) = cnRs (typ (0 : Int) eI w.val)) ∧ cnRs nilR = cnRs nilR ∧ cnRs (appR (typ dItem eItemS x.1) (raw [[CV.s (List.getD s (↑x.2.2 : Int).toNat dItem).key, CV.sh (3 : Nat) (typ (0 : Int) eI (List.getD s (↑x.2.2 : Int).toNat dItem).val)]])) = cnRs (typ dItem eItemS y.1) ∧ x.2.1 = y.2.1 ∧ IntKind.i64.wrap ((↑x.2.2 : Int) + (1 : Int)) = (↑y.2.2 : Int)) ∧ pre y ∧ μ y < μ x) ∧ ((!(List.getD s (↑x.2.2 : Int).toNat dItem).key.toList == w.key.toList) = false → ((!w.del) = true → ((0 : Nat) + w.val.length) * (8 : Nat) ≤ (140737488355328 : Nat) ∧ (x.1.length + (1 : Nat)) * (40 : Nat) ≤ (140737488355328 : Nat) ∧ ∃ (y : List Item × Bool × Nat), (cnRs (typ dItem eItemS s) = cnRs (typ dItem eItemS s) ∧ (w.key = w.key ∧ w.del = w.del ∧ cnRs (typ (0 : Int) eI w.val) = cnRs (typ (0 : Int) eI w.val)) ∧ cnRs nilR = cnRs nilR ∧ cnRs (appR (typ dItem eItemS x.1) (raw [[CV.s w.key, CV.sh (3 : Nat) (frozenRs (appR (raw []) (typ (0 : Int) eI w.val)))]])) = cnRs (typ dItem eItemS y.1) ∧ true = y.2.1 ∧ IntKind.i64.wrap ((↑x.2.2 : Int) + (1 : Int)) = (↑y.2.2 : Int)) ∧ pre y ∧ μ y < μ x) ∧ ((!w.del) = false → ∃ (y : List Item × Bool × Nat), (cnRs (typ dItem eItemS s) = cnRs (typ dItem eItemS s) ∧ (w.key = w.key ∧ w.del = w.del ∧ cnRs (typ (0 : Int) eI w.val) = cnRs (typ (0 : Int) eI w.val)) ∧ cnRs nilR = cnRs nilR ∧ cnRs (typ dItem eItemS x.1) = cnRs (typ dItem eItemS y.1) ∧ x.2.1 = y.2.1 ∧ IntKind.i64.wrap ((↑x.2.2 : Int) + (1 : Int)) = (↑y.2.2 : Int)) ∧ pre y ∧ μ y < μ x)))) ∧ ((!x.2.1) = false → ((!(List.getD s (↑x.2.2 : Int).toNat dItem).key.toList == w.key.toList) = true → (x.1.length + (1 : Nat)) * (40 : Nat) ≤ (140737488355328 : Nat) ∧ ∃ (y : List Item × Bool × Nat), (cnRs (typ dItem eItemS s) = cnRs (typ dItem eItemS s) ∧ (w.key = w.key ∧ w.del = w.del ∧ cnRs (typ (0 : Int) eI w.val) = cnRs (typ (0 : Int) eI w.val)) ∧ cnRs nilR = cnRs nilR ∧ cnRs (appR (typ dItem eItemS x.1) (raw [[CV.s (List.getD s (↑x.2.2 : Int).toNat dItem).key, CV.sh (3 : Nat) (typ (0 : Int) eI (List.getD s (↑x.2.2 : Int).toNat dItem).val)]])) = cnRs (typ dItem eItemS y.1) ∧ x.2.1 = y.2.1 ∧ IntKind.i64.wrap ((↑x.2.2 : Int) + (1 : Int)) = (↑y.2.2 : Int)) ∧ pre y ∧ μ y < μ x) ∧ ((!(List.getD s (↑x.2.2 : Int).toNat dItem).key.toList == w.key.toList) = false → ((!w.del) = true → ((0 : Nat) + w.val.length) * (8 : Nat) ≤ (140737488355328 : Nat) ∧ (x.1.length + (1 : Nat)) * (40 : Nat) ≤ (140737488355328 : Nat) ∧ ∃ (y : List Item × Bool × Nat), (cnRs (typ dItem eItemS s) = cnRs (typ dItem eItemS s) ∧ (w.key = w.key ∧ w.del = w.del ∧ cnRs (typ (0 : Int) eI w.val) = cnRs (typ (0 : Int) eI w.val)) ∧ cnRs nilR = cnRs nilR ∧ cnRs (appR (typ dItem eItemS x.1) (raw [[CV.s w.key, CV.sh (3 : Nat) (frozenRs (appR (raw []) (typ (0 : Int) eI w.val)))]])) = cnRs (typ dItem eItemS y.1) ∧ true = y.2.1 ∧ IntKind.i64.wrap ((↑x.2.2 : Int) + (1 : Int)) = (↑y.2.2 : Int)) ∧ pre y ∧ μ y < μ x) ∧ ((!w.del) = false → ∃ (y : List Item × Bool × Nat), (cnRs (typ dItem eItemS s) = cnRs (typ dItem eItemS s) ∧ (w.key = w.key ∧ w.del = w.del ∧ cnRs (typ (0 : Int) eI w.val) = cnRs (typ (0 : Int) eI w.val)) ∧ cnRs nilR = cnRs nilR ∧ cnRs (typ dItem eItemS x.1) = cnRs (typ dItem eItemS y.1) ∧ x.2.1 = y.2.1 ∧ IntKind.i64.wrap ((↑x.2.2 : Int) + (1 : Int)) = (↑y.2.2 : Int)) ∧ pre y ∧ μ y < μ x)))) ∧ (decide ((↑x.2.2 : Int) < (↑(List.length s) : Int)) = false → ((!x.2.1) = true → ((0 : Nat) + w.val.length) * (8 : Nat) ≤ (140737488355328 : Nat) ∧ (x.1.length + (1 : Nat)) * (40 : Nat) ≤ (140737488355328 : Nat) ∧ cnRs (appR (typ dItem eItemS x.1) (raw [[CV.s w.key, CV.sh (3 : Nat) (frozenRs (appR (raw []) (typ (0 : Int) eI w.val)))]])) = cnRs (typ dItem eItemS (writeS s w))) ∧ ((!x.2.1) = false → cnRs (typ dItem eItemS x.1) = cnRs (typ dItem eItemS (writeS s w))))) = _ by kernel_rfl) ?_
  have hx : s.length ≤ 1000 := hpre.1.1
  have hw := hpre.2
  refine ⟨fun x => x.2.2 ≤ s.length ∧ x.1.length ≤ 2 * x.2.2 ∧ (x.1, x.2.1) = (s.take x.2.2).foldl (stepW w) ([], w.del), fun x => s.length - x.2.2, ([], w.del, 0), by simp, by simp, fun x hp => ?_⟩
  obtain ⟨h1, h2, h3⟩ := hp
  refine ⟨fun hl0 => ?_, fun hge => ?_⟩
  · have hlt := ylt hl0
    clear hl0
    have e : ∀ it, it = s.getD x.2.2 dItem → ∃ (y : List Item × Bool × Nat), y = ((stepW w (x.1, x.2.1) it).1, (stepW w (x.1, x.2.1) it).2, x.2.2 + 1) ∧ IntKind.i64.wrap ((x.2.2 : Int) + 1) = (y.2.2 : Int) ∧ (y.2.2 ≤ s.length ∧ y.1.length ≤ 2 * y.2.2 ∧ (y.1, y.2.1) = (s.take y.2.2).foldl (stepW w) ([], w.del)) ∧ s.length - y.2.2 < s.length - x.2.2 := fun it hit => by
      refine ⟨_, rfl, wrapN (by omega), ⟨by simp only; omega, ?_, ?_⟩, muN hlt⟩
      · have := stepW_len w (x.1, x.2.1) it; simp only at this ⊢; omega
      · simp only; rw [fold_succ hlt (d := dItem), ← h3, ← hit]
    simp only [Int.toNat_natCast]
    generalize s.getD x.2.2 dItem = it at e ⊢
    obtain ⟨y, hy, e1, e2, e3⟩ := e it rfl
    clear e
    refine ⟨⟨by omega, by omega⟩, ?_⟩
    simp only [e1, true_and, and_self]
    refine ⟨fun a1 => ⟨fun a2 => ⟨by omega, by omega, fun a3 => ⟨by omega, y, ⟨?_, ?_⟩, e2, e3⟩, fun a3 => ⟨fun a4 => ⟨by omega, by omega, y, ⟨?_, ?_⟩, e2, e3⟩, fun a4 => ⟨y, ⟨?_, ?_⟩, e2, e3⟩⟩⟩,
      fun a2 => ⟨fun a3 => ⟨by omega, y, ⟨?_, ?_⟩, e2, e3⟩, fun a3 => ⟨fun a4 => ⟨by omega, by omega, y, ⟨?_, ?_⟩, e2, e3⟩, fun a4 => ⟨y, ⟨?_, ?_⟩, e2, e3⟩⟩⟩⟩,
      fun a1 => ⟨fun a3 => ⟨by omega, y, ⟨?_, ?_⟩, e2, e3⟩, fun a3 => ⟨fun a4 => ⟨by omega, by omega, y, ⟨?_, ?_⟩, e2, e3⟩, fun a4 => ⟨y, ⟨?_, ?_⟩, e2, e3⟩⟩⟩⟩
    all_goals (clear e1 e2 e3 h1 h2 h3; subst hy)
    all_goals simp_all [stepW, ltB, beq_eq_false_iff_ne.2, eqB]
  · have : x.2.2 = s.length := by have := nlt hge; omega
    rw [this, List.take_length] at h3
    have hw' : writeS s w = bif !x.2.1 then x.1 ++ [⟨w.key, w.val⟩] else x.1 := by simp only [writeS, ← h3]
    refine ⟨fun a => ⟨by omega, by omega, ?_⟩, fun a => ?_⟩
    · simp_all
    · simp_all
def spec_l1Write_c : Con Tryz.prog := ⟨114, 2, [.lend, .lend], [], Sto × Wrt, some fun b => small b.1 ∧ b.2.val.length ≤ 1000, fun b => [(0, kSto b.1), (1, kWrt b.2)], fun b => [(2, ⟨.agg, [.c (mItems (writeS b.1 b.2))], []⟩)], [], fun b h => spec_l1Write_ok (b.1) (b.2) h⟩
theorem spec_StoDo_ok (s : Sto) (ws : List Wrt) (hpre : ws.length ≤ 1000) : FunOK Tryz.prog 78 2 [] [(0, kSto s), (1, k1 (sWrts ws))] (· = [(2, ⟨.agg, [.c (oItems (doS s ws))], []⟩)]) := by
  refine fun_to (E := ⟨tab, ctOf [spec_l1Copy_c, spec_StoOk_c, spec_WrtOk_c, spec_l1Write_c], 39, [], [(0, [1, 2, 4, 10, 25, 36, 38]), (1, [1, 2, 4, 9, 10, 25, 36, 38]), (2, [4, 10, 25, 36, 38]), (3, [1, 4, 5, 10, 25, 36, 38]), (4, [1, 4, 5, 6, 10, 25, 36, 38]), (5, [1, 4, 5, 6, 10, 16, 25, 36, 38]), (6, [1, 4, 5, 6, 10, 25, 36, 38]), (7, [1, 4, 5, 6, 10, 24, 25, 36, 38]), (8, [4, 10, 25, 36, 38]), (9, [1, 4, 5, 6, 10, 25, 36, 38]), (10, [1, 4, 5, 6, 10, 25, 35, 36, 38]), (11, [4, 10, 25, 36, 38]), (12, [4, 10, 25, 36, 38])], [(0, ⟨List Item × List Item × Nat, fun x => [(1, ⟨.one, [.c (.sh 55 (typ dWrt eWrtS ws))], []⟩), (4, ⟨.box, [.c (oItems (x.1))], []⟩), (5, ⟨.box, [.c (sItems (x.2.1))], []⟩), (6, ⟨.one, [.c (.n IntKind.i64 (x.2.2 : Int))], []⟩)]⟩)], [(4, [(0, [5])]), (10, [(0, [5])])], [], []⟩) tab_ok mixed Tryz.func78 rfl Tryz.ntmps78 (rvs := [.cell 4 35]) Tryz.results78 rfl fun hl => ?_
  refine cast (show (∃ (b : List Item), cnRs (typ dItem eItemS s) = cnRs (typ dItem eItemS b) ∧ ((!stoB b) = true → cnRs nilR = cnRs (typ dItem eItemO (doS s ws))) ∧ ((!stoB b) = false → ∃ (b : List Item), cnRs (typ dItem eItemS s) = cnRs (typ dItem eItemS b) ∧ small b ∧ ∃ (pre : List Item × List Item × Nat → Prop), ∃ (μ : List Item × List Item × Nat → Nat), ∃ (x0 : List Item × List Item × Nat), (cnRs (typ dWrt eWrtS ws) = cnRs (typ dWrt eWrtS ws) ∧ cnRs nilR = cnRs (typ dItem eItemO x0.1) ∧ cnRs (frozenRs (typ dItem eItemO b)) = cnRs (typ dItem eItemS x0.2.1) ∧ (0 : Int) = (↑x0.2.2 : Int)) ∧ pre x0 ∧ ∀ (x : List Item × List Item × Nat), pre x → (decide ((↑x.2.2 : Int) < (↑ws.length : Int)) = true → ((0 : Int) ≤ (↑x.2.2 : Int) ∧ (↑x.2.2 : Int) < (↑ws.length : Int)) ∧ ∃ (b : Wrt), ((ws.getD (↑x.2.2 : Int).toNat dWrt).key = b.key ∧ (ws.getD (↑x.2.2 : Int).toNat dWrt).del = b.del ∧ cnRs (typ (0 : Int) eI (ws.getD (↑x.2.2 : Int).toNat dWrt).val) = cnRs (typ (0 : Int) eI b.val)) ∧ ((!wrtB b) = true → cnRs nilR = cnRs (typ dItem eItemO (doS s ws))) ∧ ((!wrtB b) = false → ((0 : Int) ≤ (↑x.2.2 : Int) ∧ (↑x.2.2 : Int) < (↑ws.length : Int)) ∧ ∃ (b : Sto × Wrt), (cnRs (typ dItem eItemS x.2.1) = cnRs (typ dItem eItemS b.1) ∧ (ws.getD (↑x.2.2 : Int).toNat dWrt).key = b.2.key ∧ (ws.getD (↑x.2.2 : Int).toNat dWrt).del = b.2.del ∧ cnRs (typ (0 : Int) eI (ws.getD (↑x.2.2 : Int).toNat dWrt).val) = cnRs (typ (0 : Int) eI b.2.val)) ∧ (small b.1 ∧ b.2.val.length ≤ (1000 : Nat)) ∧ (decide ((↑(List.length (writeS b.1 b.2)) : Int) > (40 : Int)) = true → cnRs nilR = cnRs (typ dItem eItemO (doS s ws))) ∧ (decide ((↑(List.length (writeS b.1 b.2)) : Int) > (40 : Int)) = false → ∃ (y : List Item × List Item × Nat), (cnRs (typ dWrt eWrtS ws) = cnRs (typ dWrt eWrtS ws) ∧ cnRs (typ dItem eItemO x.1) = cnRs (typ dItem eItemO y.1) ∧ cnRs (frozenRs (typ dItem eItemS (writeS b.1 b.2))) = cnRs (typ dItem eItemS y.2.1) ∧ IntKind.i64.wrap ((↑x.2.2 : Int) + (1 : Int)) = (↑y.2.2 : Int)) ∧ pre y ∧ μ y < μ x))) ∧ (decide ((↑x.2.2 : Int) < (↑ws.length : Int)) = false → ∃ (b : List Item), cnRs (typ dItem eItemS x.2.1) = cnRs (typ dItem eItemS b) ∧ small b ∧ cnRs (typ dItem eItemO b) = cnRs (typ dItem eItemO (doS s ws))))) = _ by kernel_rfl) ?_
  have hx := hpre
  simp only [cItemS, nItemS_iff, exists_eq_left', cWrtS, cI, nI_iff, List.length_eq_zero_iff, exists_wrt, Prod.exists, and_assoc, fItemO, fItemS, cItemO, nItemO_iff, cnRs_nil]
  refine ⟨fun h => by simp_all [doS], fun h => ?_⟩
  have hs : stoB s = true := by simpa using h
  have hd : doS s ws = doL s ws := by simp [doS, hs]
  have hsm := stoB_small hs
  refine ⟨small_of hsm, fun x => x.2.2 ≤ ws.length ∧ x.1 = [] ∧ small3 x.2.1 ∧ doL x.2.1 (ws.drop x.2.2) = doL s ws, fun x => ws.length - x.2.2, [], s, 0, trivial, rfl, rfl, rfl, ⟨by simp, rfl, hsm, by simp⟩, fun x hp => ?_⟩
  obtain ⟨h1, h2, h3, h4⟩ := hp
  refine ⟨fun hl0 => ?_, fun hge => ?_⟩
  · have hlt := ylt hl0
    clear hl0
    rw [drop_at hlt (d := dWrt)] at h4
    simp only [Int.toNat_natCast]
    generalize ws.getD x.2.2 dWrt = w at h4 ⊢
    refine ⟨by omega, by omega, _, _, _, rfl, rfl, rfl, fun a1 => ?_, fun a1 => ?_⟩
    · rw [hd, ← h4, doL]; simp_all
    have hw : wrtB w = true := by simpa using a1
    rw [doL, hw] at h4
    refine ⟨by omega, by omega, _, _, _, _, rfl, rfl, rfl, rfl, small_of h3, by have := wrtB_len hw; omega, fun a2 => ?_, fun a2 => ?_⟩
    · have : 40 < (writeS x.2.1 w).length := ygt (k := 40) a2
      simp [this] at h4
      rw [hd, h4]; rfl
    · have hle : (writeS x.2.1 w).length ≤ 40 := ngt (k := 40) a2
      simp [show ¬ 40 < (writeS x.2.1 w).length by omega] at h4
      exact ⟨[], _, x.2.2 + 1, trivial, h2, rfl, wrapN (by omega), ⟨by omega, rfl, writeS_small h3 hw hle, h4⟩, muN hlt⟩
  · have : x.2.2 = ws.length := by have := nlt hge; omega
    rw [this, List.drop_length] at h4
    simp only [doL] at h4
    exact ⟨small_of h3, by rw [hd, h4]⟩
def spec_StoDo_c : Con Tryz.prog := ⟨78, 2, [.lend, .lend], [], Sto × List Wrt, some fun b => b.2.length ≤ 1000, fun b => [(0, kSto b.1), (1, k1 (sWrts b.2))], fun b => [(2, ⟨.agg, [.c (oItems (doS b.1 b.2))], []⟩)], [], fun b h => spec_StoDo_ok (b.1) (b.2) h⟩
end Go.Proofs.AI
