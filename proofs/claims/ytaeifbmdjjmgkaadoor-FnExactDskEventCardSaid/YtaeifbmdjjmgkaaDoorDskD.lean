/- What a line of the janitor's events says, in plain Lean. Conditions: none. -/
import Derived.Test.YtaeifbmdjjmgkaaDoorNum
import Derived.Lib.ItoaLen
namespace Go.Proofs.YtaeifbmdjjmgkaaDoor
open Go.RowKit Go.Proofs.YtaeifbmdjjmgkaaDoorW.PrintWords
set_option linter.unusedVariables false
set_option linter.unusedSimpArgs false

structure Ev where
  kind : Int
  op : Op
  at_ : Int
  place : Int
  keep : Int
def Ev.nums (e : Ev) : List Int := [e.kind, e.op.kind, e.op.who, e.op.in_, e.op.code, e.op.sec, e.op.fam, e.op.gen, e.at_, e.place, e.keep]
/-- A number of an event by its place. -/
def Ev.fld (e : Ev) (o : Nat) : Int := e.nums.getD o 0
def Ev.val (e : Ev) : Value := .agg #[.int .i64 e.kind, .int .i64 e.op.kind, .int .i64 e.op.who, .int .i64 e.op.in_, .int .i64 e.op.code, .int .i64 e.op.sec, .int .i64 e.op.fam, .int .i64 e.op.gen, .int .i64 e.at_, .int .i64 e.place, .int .i64 e.keep]
def Ev.cells (e : Ev) : Array Value := #[.int .i64 e.kind, .int .i64 e.op.kind, .int .i64 e.op.who, .int .i64 e.op.in_, .int .i64 e.op.code, .int .i64 e.op.sec, .int .i64 e.op.fam, .int .i64 e.op.gen, .int .i64 e.at_, .int .i64 e.place, .int .i64 e.keep]
/-- What is known of a line: its word, its event's kind, its operation's kind, and where in an event its numbers lie. -/
structure Man where
  word : ByteArray
  kind : Int
  op : Int
  offs : List Nat
def manners : List Man := [⟨⟨#[105, 110]⟩, 1, 1, [2, 3]⟩, ⟨⟨#[108, 101, 116]⟩, 1, 2, [2, 3, 4, 5]⟩, ⟨⟨#[116, 114, 97, 100, 101]⟩, 1, 3, [4, 5, 6]⟩, ⟨⟨#[110, 101, 120, 116]⟩, 1, 4, [6, 7]⟩, ⟨⟨#[111, 117, 116]⟩, 1, 5, [2, 3]⟩, ⟨⟨#[104, 101, 97, 114]⟩, 2, 0, [8]⟩, ⟨⟨#[108, 111, 115, 101]⟩, 3, 0, [8]⟩, ⟨⟨#[116, 119, 105, 99, 101]⟩, 4, 0, [8]⟩, ⟨⟨#[103, 105, 118, 101]⟩, 6, 0, [8]⟩, ⟨⟨#[116, 105, 99, 107]⟩, 5, 0, [9]⟩, ⟨⟨#[102, 97, 108, 108]⟩, 7, 0, [9, 10]⟩]
def Man.z : Man := ⟨⟨#[]⟩, 0, 0, []⟩
def sp : ByteArray := ⟨#[32]⟩
def joinN (s : ByteArray) : List Int → ByteArray
  | [] => s
  | n :: r => joinN (s ++ (sp ++ itoaB n)) r
def matB (e : Ev) (m : Man) : Bool := m.kind == e.kind && (e.kind != 1 || m.op == e.op.kind)
noncomputable def evOkB (e : Ev) : Bool := if e.kind = 1 then opOkB e.op else dec (InB e.at_ 0 999 ∧ InB e.keep 0 999 ∧ InB e.place 0 3)
/-- The place of the first one that is so, or -1. -/
def idxOf (p : Man → Bool) (xs : List Man) : Int := match xs.findIdx? p with
  | some k => k
  | none => -1
def textOf (e : Ev) (i : Int) : ByteArray := if i < 0 then ⟨#[]⟩ else joinN (ix .z manners i.toNat).word ((ix .z manners i.toNat).offs.map e.fld)
noncomputable def dskText (e : Ev) : ByteArray := if evOkB e = true then textOf e (idxOf (matB e) manners) else ⟨#[]⟩

theorem idxOf_hit {p : Man → Bool} {xs : List Man} {k : Nat} (hk : k < xs.length) (hp : p (ix .z xs k) = true) (hn : ∀ j, j < k → p (ix .z xs j) = false) : idxOf p xs = k := by
  unfold idxOf
  have h : xs.findIdx? p = some k := by
    rw [List.findIdx?_eq_some_iff_getElem]
    refine ⟨hk, by rw [← ix_lt .z xs k hk]; exact hp, fun j hj => ?_⟩
    have := hn j hj
    rw [ix_lt .z xs j (by omega)] at this
    simp [this]
  rw [h]
theorem idxOf_miss {p : Man → Bool} {xs : List Man} (hn : ∀ j, j < xs.length → p (ix .z xs j) = false) : idxOf p xs = -1 := by
  unfold idxOf
  have h : xs.findIdx? p = none := by
    rw [List.findIdx?_eq_none_iff]
    intro x hx
    obtain ⟨j, hj, rfl⟩ := List.getElem_of_mem hx
    have := hn j hj
    rwa [ix_lt .z xs j hj] at this
  rw [h]
theorem itoaB_size (n : Int) (h0 : -9223372036854775808 ≤ n) (h1 : n ≤ 9223372036854775807) : (itoaB n).size ≤ 21 := by
  unfold itoaB
  show (Lib.itoa n).toArray.size ≤ 21
  rw [List.size_toArray]
  unfold Lib.itoa
  split
  · rw [List.length_cons, Lib.decDigits_length]
    have := Lib.nDigits_le20 n.natAbs (by omega)
    omega
  · rw [Lib.decDigits_length]
    have := Lib.nDigits_le20 n.toNat (by omega)
    omega
theorem manners_len : manners.length = 11 := rfl
theorem man_off (k j : Nat) (hk : k < 11) (hj : j < (ix .z manners k).offs.length) : ix 0 (ix .z manners k).offs j < 11 := by
  have h : ∀ k < 11, ∀ j < (ix .z manners k).offs.length, ix 0 (ix .z manners k).offs j < 11 := by decide
  exact h k hk j hj
theorem man_word (k : Nat) (hk : k < 11) : (ix .z manners k).word.size ≤ 5 := by
  have h : ∀ k < 11, (ix .z manners k).word.size ≤ 5 := by decide
  exact h k hk
theorem man_offs (k : Nat) (hk : k < 11) : (ix .z manners k).offs.length ≤ 4 := by
  have h : ∀ k < 11, (ix .z manners k).offs.length ≤ 4 := by decide
  exact h k hk
theorem idxOf_cases (p : Man → Bool) : idxOf p manners = -1 ∨ ∃ k : Nat, k < 11 ∧ idxOf p manners = k := by
  unfold idxOf
  cases h : manners.findIdx? p with
  | none => exact .inl rfl
  | some k =>
    rw [List.findIdx?_eq_some_iff_getElem] at h
    exact .inr ⟨k, h.1, rfl⟩
theorem joinN_snoc (s : ByteArray) (l : List Int) (n : Int) : joinN s (l ++ [n]) = joinN s l ++ (sp ++ itoaB n) := by
  induction l generalizing s with
  | nil => rfl
  | cons a l ih => exact ih _
theorem joinN_size (s : ByteArray) (l : List Int) (h : ∀ n ∈ l, -9223372036854775808 ≤ n ∧ n ≤ 9223372036854775807) : (joinN s l).size ≤ s.size + 22 * l.length := by
  induction l generalizing s with
  | nil => exact Nat.le_refl _
  | cons a l ih =>
    have h1 := ih (s ++ (sp ++ itoaB a)) (fun n hn => h n (List.mem_cons_of_mem _ hn))
    have h2 := itoaB_size a (h a List.mem_cons_self).1 (h a List.mem_cons_self).2
    rw [ByteArray.size_append, ByteArray.size_append, show sp.size = 1 from rfl] at h1
    simp only [List.length_cons]
    show (joinN (s ++ (sp ++ itoaB a)) l).size ≤ _
    omega
/-- The first k numbers. -/
def joinK (e : Ev) (m : Man) (k : Nat) : ByteArray := joinN m.word ((m.offs.take k).map e.fld)
theorem joinK_zero (e : Ev) (m : Man) : joinK e m 0 = m.word := rfl
theorem joinK_succ (e : Ev) (m : Man) (k : Nat) (hk : k < m.offs.length) : joinK e m (k + 1) = joinK e m k ++ (sp ++ itoaB (e.fld (ix 0 m.offs k))) := by
  unfold joinK
  rw [take_snoc_ix 0 m.offs k hk, List.map_append]
  exact joinN_snoc _ _ _
theorem joinK_all (e : Ev) (m : Man) : joinK e m m.offs.length = joinN m.word (m.offs.map e.fld) := by unfold joinK; rw [List.take_length]
theorem joinK_size (e : Ev) (he : ∀ o, -9223372036854775808 ≤ e.fld o ∧ e.fld o ≤ 9223372036854775807) (m : Man) (k : Nat) : (joinK e m k).size ≤ m.word.size + 22 * k := by
  have := joinN_size m.word ((m.offs.take k).map e.fld) (fun n hn => by
    obtain ⟨o, _, rfl⟩ := List.mem_map.1 hn
    exact he o)
  rw [List.length_map, List.length_take] at this
  unfold joinK
  omega
end Go.Proofs.YtaeifbmdjjmgkaaDoor
