/- The data of the janitor as plain Lean structures, and what its functions compute. Conditions: none. -/
namespace Go.Proofs.YtaeifbmdjjmgkaaDoor
set_option linter.unusedVariables false
set_option linter.unusedSimpArgs false

/-- A proposition's truth as a Bool; the walk doesn't look into it. -/
noncomputable def dec (p : Prop) : Bool := @decide p (Classical.propDecidable p)
theorem dec_true {p : Prop} (h : p) : dec p = true := @decide_eq_true p (Classical.propDecidable p) h
theorem dec_false {p : Prop} (h : ¬ p) : dec p = false := @decide_eq_false p (Classical.propDecidable p) h
theorem dec_iff {p : Prop} : dec p = true ↔ p := by unfold dec; simp
theorem dec_iff_false {p : Prop} : dec p = false ↔ ¬ p := by unfold dec; simp
theorem dec_congr {p q : Prop} (h : p ↔ q) : dec p = dec q := by
  by_cases hp : p
  · rw [dec_true hp, dec_true (h.1 hp)]
  · rw [dec_false hp, dec_false (fun hq => hp (h.2 hq))]

structure Item where
  key : ByteArray
  val : List Int
structure Wr where
  key : ByteArray
  del : Bool
  val : List Int
structure Op where
  kind : Int
  who : Int
  in_ : Int
  code : Int
  sec : Int
  fam : Int
  gen : Int
structure Plan where
  ok : Bool
  locks : List ByteArray
  writes : List Wr
def Item.z : Item := ⟨⟨#[]⟩, []⟩
def Wr.z : Wr := ⟨⟨#[]⟩, false, []⟩


/-- Element k of a list, z past its end. -/
def ix {α : Type} (z : α) (xs : List α) (k : Nat) : α := xs.getD k z
theorem ix_lt {α : Type} (z : α) (xs : List α) (k : Nat) (h : k < xs.length) : ix z xs k = xs[k] := by simp [ix, h]
theorem ix_get? {α : Type} (z : α) (xs : List α) (k : Nat) (h : k < xs.length) : xs[k]? = some (ix z xs k) := by simp [ix, h]
theorem ix_mem {α : Type} (z : α) (xs : List α) (k : Nat) (h : k < xs.length) : ix z xs k ∈ xs := by rw [ix_lt z xs k h]; exact List.getElem_mem h
theorem take_snoc_ix {α : Type} (z : α) (xs : List α) (k : Nat) (h : k < xs.length) : xs.take (k + 1) = xs.take k ++ [ix z xs k] := by
  rw [List.take_succ_eq_append_getElem h, ix_lt z xs k h]
/-! ### chapter 1 -/
/-- The byte of a string, 0 past its end. -/
def bn (s : ByteArray) (k : Nat) : Nat := if h : k < s.size then (s[k]'h).toNat else 0
theorem bn_at (s : ByteArray) (k : Nat) (h : k < s.size) : (s[k]'h).toNat = bn s k := by simp [bn, h]
def InB (n lo hi : Int) : Prop := lo ≤ n ∧ n ≤ hi
noncomputable def inB (n lo hi : Int) : Bool := dec (InB n lo hi)
def KeyOk (s : ByteArray) : Prop := (2 ≤ s.size ∧ s.size ≤ 3) ∧ (97 ≤ bn s 0 ∧ bn s 0 ≤ 122) ∧ ∀ k, 1 ≤ k → k < s.size → 48 ≤ bn s k ∧ bn s k ≤ 57
noncomputable def keyOkB (s : ByteArray) : Bool := dec (KeyOk s)
def ValOk (l : List Int) : Prop := (∀ k, k < l.length → 0 ≤ ix 0 l k ∧ ix 0 l k ≤ 9999) ∧ 1 ≤ l.length ∧ l.length ≤ 3
noncomputable def valOkB (l : List Int) : Bool := dec (ValOk l)
/-- The order of strings, as Go compares them. -/
def bl : List UInt8 → List UInt8 → Bool
  | _, [] => false
  | [], _ :: _ => true
  | a :: x, b :: y => a < b || (a == b && bl x y)
def klt (a b : ByteArray) : Bool := bl a.toList b.toList
def StoOk (xs : List Item) : Prop := xs.length ≤ 40 ∧ ∀ k, k < xs.length → KeyOk (ix .z xs k).key ∧ ValOk (ix .z xs k).val ∧ (0 < k → klt (ix .z xs (k - 1)).key (ix .z xs k).key = true)
noncomputable def stoOkB (xs : List Item) : Bool := dec (StoOk xs)
/-! ### chapter 3 -/
def OpForm (o : Op) : Prop := (o.kind = 1 ∨ o.kind = 5) ∧ o.code = 0 ∧ o.sec = 0 ∧ o.fam = 0 ∧ o.gen = 0 ∨ o.kind = 2 ∧ o.fam = 0 ∧ o.gen = 0 ∨ o.kind = 3 ∧ o.who = 0 ∧ o.in_ = 0 ∧ o.gen = 0 ∨ o.kind = 4 ∧ o.who = 0 ∧ o.in_ = 0 ∧ o.code = 0 ∧ o.sec = 0
def OpOk (o : Op) : Prop := InB o.who 0 9 ∧ InB o.in_ 0 9 ∧ InB o.code 0 9 ∧ InB o.sec 0 99 ∧ InB o.fam 0 9 ∧ InB o.gen 0 99 ∧ OpForm o
noncomputable def opOkB (o : Op) : Bool := dec (OpOk o)
end Go.Proofs.YtaeifbmdjjmgkaaDoor
