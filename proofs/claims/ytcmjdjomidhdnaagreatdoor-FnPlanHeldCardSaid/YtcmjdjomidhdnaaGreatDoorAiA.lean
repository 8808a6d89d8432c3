/- How data lie in memory: trees of cells, what is read only and what is one's own, and the blocks that a tree owns. Conditions: none. -/
import Derived.Below
import Derived.Calls
import Derived.Orders
import Derived.Maps.AppendAt
import Derived.Laws.Entries
import Derived.Laws.Cells
import Derived.Laws.Tables
import Derived.Deep.MidRow
import Derived.Great.BuildSlice
import Derived.Laws.Small
import Derived.WalkSpells
namespace Go.Proofs.AI
open Go.RowKit
set_option linter.unusedVariables false
set_option linter.unusedSimpArgs false

/-- Rows, by their number. -/
structure Rows (C : Type) where
  n : Nat
  f : Nat → List C
/-- What is known of one cell. -/
inductive CV where
  | any
  | b (x : Bool)
  | n (k : IntKind) (x : Int)
  | s (x : ByteArray)
  | vl (v : Value)
  | sh (e : TypeId) (es : Rows CV)
  | ow (e : TypeId) (es : Rows CV)
  | rp (row : List CV)
  | fn (f : FuncId) (caps : List CV)
/-- The rows as a list. -/
def Rows.l {C : Type} (r : Rows C) : List (List C) := (List.range r.n).map r.f
def raw {C : Type} (l : List (List C)) : Rows C := ⟨l.length, fun k => l.getD k []⟩
/-- Rows of things of a kind. -/
def typ {C α : Type} (d : α) (g : α → List C) (xs : List α) : Rows C := ⟨xs.length, fun k => g (xs.getD k d)⟩
theorem Rows.l_at {C : Type} (r : Rows C) (k : Nat) : r.l[k]? = if k < r.n then some (r.f k) else none := by
  unfold Rows.l
  by_cases h : k < r.n
  · rw [if_pos h, List.getElem?_map, List.getElem?_range h]; rfl
  · rw [if_neg h, List.getElem?_eq_none (by simpa using h)]
@[simp] theorem Rows.l_length {C : Type} (r : Rows C) : r.l.length = r.n := by simp [Rows.l]
theorem Rows.l_eq {C : Type} (r : Rows C) {k : Nat} (h : k < r.n) : r.l[k]? = some (r.f k) := by rw [Rows.l_at, if_pos h]
theorem Rows.l_lt {C : Type} {r : Rows C} {k : Nat} {row : List C} (h : r.l[k]? = some row) : k < r.n ∧ r.f k = row := by
  rw [Rows.l_at] at h
  split at h
  · rename_i hk; exact ⟨hk, Option.some.inj h⟩
  · cases h
@[simp] theorem raw_l {C : Type} (l : List (List C)) : (raw l).l = l := by
  apply List.ext_getElem?
  intro k
  rw [Rows.l_at]
  by_cases h : k < l.length
  · simp [raw, h]
  · simp only [raw, h, if_false]; rw [List.getElem?_eq_none (by omega)]
theorem typ_l {C α : Type} (d : α) (g : α → List C) (xs : List α) : (typ d g xs).l = xs.map g := by
  apply List.ext_getElem?
  intro k
  rw [Rows.l_at]
  by_cases h : k < xs.length
  · simp [typ, h]
  · simp only [typ, h, if_false]; rw [List.getElem?_eq_none (by simpa using h)]

/-- Blocks that are owned. -/
abbrev FP := Nat → Prop
def FP.none : FP := fun _ => False
/-- One value of one cell. -/
abbrev One (v : Value) : Prop := v.oneCell' = true

inductive Rep (P : Program) (w : World) (I : Nat → Prop) : CV → Value → FP → Prop
  | any {v : Value} {F : FP} : One v → Rep P w I .any v F
  | b {x : Bool} {F : FP} : Rep P w I (.b x) (.bool x) F
  | n {k : IntKind} {x : Int} {F : FP} : Rep P w I (.n k x) (.int k x) F
  | s {x : ByteArray} {F : FP} : Rep P w I (.s x) (.string x) F
  | vl {v : Value} {F : FP} : One v → Rep P w I (.vl v) v F
  | sh {e : TypeId} {es : Rows CV} {F : FP} {A : Option Addr} {c : Nat} (us : Nat → Nat → Value) :
      es.n ≤ c → es.n ≤ 9223372036854775807 →
      (0 < es.n → ∃ ad : Addr, A = some ad ∧ I ad.block ∧ ∀ (k : Nat) (row : List CV), es.l[k]? = some row → ∀ o, o < row.length → w.cell? (ad.add (k * P.cellsOf e + o)) = some (us k o)) →
      (∀ (k : Nat) (row : List CV), es.l[k]? = some row → row.length = P.cellsOf e) →
      (∀ (k : Nat) (row : List CV) (o : Nat) (x : CV), es.l[k]? = some row → row[o]? = some x → Rep P w I x (us k o) FP.none) →
      Rep P w I (.sh e es) (.slice A es.n c) F
  | ow {e : TypeId} {es : Rows CV} {F : FP} {g cap : Nat} {cur : Array Value} (us : Nat → Nat → Value) (G : Nat → Nat → FP) :
      w.heap[g]? = some (.cells cur e (0, 0)) → cur.size = cap * P.cellsOf e → es.n ≤ cap → cap ≤ maxLen → F g → ¬ I g →
      (∀ (k : Nat) (row : List CV), es.l[k]? = some row → row.length = P.cellsOf e) →
      (∀ (k : Nat) (row : List CV) (o : Nat), es.l[k]? = some row → o < row.length → cur[k * P.cellsOf e + o]? = some (us k o)) →
      (∀ (k : Nat) (row : List CV) (o : Nat) (x : CV), es.l[k]? = some row → row[o]? = some x → Rep P w I x (us k o) (G k o)) →
      (∀ k o b, G k o b → F b ∧ b ≠ g) → (∀ k o k' o' b, G k o b → G k' o' b → k = k' ∧ o = o') →
      Rep P w I (.ow e es) (.slice (some ⟨g, 0, .none⟩) es.n cap) F
  | ow0 {e : TypeId} {es : Rows CV} {F : FP} : es.n = 0 → Rep P w I (.ow e es) (.slice none 0 0) F
  | rp {row : List CV} {ad : Addr} {F : FP} (us : Nat → Value) :
      I ad.block → (∀ o, o < row.length → w.cell? (ad.add o) = some (us o)) → (∀ (o : Nat) (x : CV), row[o]? = some x → Rep P w I x (us o) FP.none) →
      Rep P w I (.rp row) (.pointer (some ad)) F
  | fn {f : FuncId} {caps : List CV} {F : FP} (vs : Array Value) :
      vs.size = caps.length → (∀ (o : Nat) (x : CV), caps[o]? = some x → Rep P w I x (vs.getD o undef) FP.none) →
      Rep P w I (.fn f caps) (.func (.func f) #[] vs) F

variable {P : Program} {w w' : World} {I I' : Nat → Prop}

theorem Rep.one {x : CV} {v : Value} {F : FP} (h : Rep P w I x v F) : One v := by
  cases h <;> first | assumption | rfl
theorem Rep.mono {x : CV} {v : Value} {F F' : FP} (h : Rep P w I x v F) (hF : ∀ b, F b → F' b) : Rep P w I x v F' := by
  cases h with
  | any h => exact .any h
  | b => exact .b
  | n => exact .n
  | s => exact .s
  | vl h => exact .vl h
  | sh us h1 h2 h3 h4 h5 => exact .sh us h1 h2 h3 h4 h5
  | ow us G h1 h2 h3 h4 h5 h6 h7 h8 h9 h10 h11 => exact .ow us G h1 h2 h3 h4 (hF _ h5) h6 h7 h8 h9 (fun k o b hg => ⟨hF _ (h10 k o b hg).1, (h10 k o b hg).2⟩) h11
  | ow0 h => exact .ow0 h
  | rp us h1 h2 h3 => exact .rp us h1 h2 h3
  | fn vs h1 h2 => exact .fn vs h1 h2
theorem Rep.ow_inv {e : TypeId} {es : Rows CV} {v : Value} {F : FP} (h : Rep P w I (.ow e es) v F) :
    (v = .slice none 0 0 ∧ es.n = 0) ∨ ∃ (g cap : Nat) (cur : Array Value) (us : Nat → Nat → Value) (G : Nat → Nat → FP), v = .slice (some ⟨g, 0, .none⟩) es.n cap ∧
      w.heap[g]? = some (.cells cur e (0, 0)) ∧ cur.size = cap * P.cellsOf e ∧ es.n ≤ cap ∧ cap ≤ maxLen ∧ F g ∧ ¬ I g ∧
      (∀ (k : Nat) (row : List CV), es.l[k]? = some row → row.length = P.cellsOf e) ∧
      (∀ (k : Nat) (row : List CV) (o : Nat), es.l[k]? = some row → o < row.length → cur[k * P.cellsOf e + o]? = some (us k o)) ∧
      (∀ (k : Nat) (row : List CV) (o : Nat) (x : CV), es.l[k]? = some row → row[o]? = some x → Rep P w I x (us k o) (G k o)) ∧
      (∀ k o b, G k o b → F b ∧ b ≠ g) ∧ (∀ k o k' o' b, G k o b → G k' o' b → k = k' ∧ o = o') := by
  cases h with
  | ow us G h1 h2 h3 h4 h5 h6 h7 h8 h9 h10 h11 => exact .inr ⟨_, _, _, us, G, rfl, h1, h2, h3, h4, h5, h6, h7, h8, h9, h10, h11⟩
  | ow0 h => exact .inl ⟨rfl, h⟩
theorem Rep.sh_inv {e : TypeId} {es : Rows CV} {v : Value} {F : FP} (h : Rep P w I (.sh e es) v F) :
    ∃ (A : Option Addr) (c : Nat) (us : Nat → Nat → Value), v = .slice A es.n c ∧ es.n ≤ c ∧ es.n ≤ 9223372036854775807 ∧
      (0 < es.n → ∃ ad : Addr, A = some ad ∧ I ad.block ∧ ∀ (k : Nat) (row : List CV), es.l[k]? = some row → ∀ o, o < row.length → w.cell? (ad.add (k * P.cellsOf e + o)) = some (us k o)) ∧
      (∀ (k : Nat) (row : List CV), es.l[k]? = some row → row.length = P.cellsOf e) ∧
      (∀ (k : Nat) (row : List CV) (o : Nat) (x : CV), es.l[k]? = some row → row[o]? = some x → Rep P w I x (us k o) FP.none) := by
  cases h with
  | sh us h1 h2 h3 h4 h5 => exact ⟨_, _, us, rfl, h1, h2, h3, h4, h5⟩
/-- Blocks that a tree reads are as they were. -/
def Same (w w' : World) (I : Nat → Prop) (F : FP) : Prop := ∀ b, (I b ∨ F b) → w'.heap[b]? = w.heap[b]?
theorem cell_same {a : Addr} (h : w'.heap[a.block]? = w.heap[a.block]?) : w'.cell? a = w.cell? a := World.cell?_of_block h
theorem add_block (ad : Addr) (n : Nat) : (ad.add n).block = ad.block := by unfold Addr.add; split <;> rfl
theorem Rep.frame {x : CV} {v : Value} {F : FP} (h : Rep P w I x v F) (hs : Same w w' I F) : Rep P w' I x v F := by
  induction h with
  | any h => exact .any h
  | b => exact .b
  | n => exact .n
  | s => exact .s
  | vl h => exact .vl h
  | sh us h1 h2 h3 h4 h5 ih =>
    refine .sh us h1 h2 (fun hp => ?_) h4 (fun k row o x hk ho => ih k row o x hk ho (fun b hb => hs b (hb.imp id (fun hq => hq.elim))))
    obtain ⟨ad, e1, e2, e3⟩ := h3 hp
    refine ⟨ad, e1, e2, fun k row hk o ho => ?_⟩
    rw [cell_same]
    · exact e3 k row hk o ho
    · rw [add_block]
      exact hs _ (.inl e2)
  | ow us G h1 h2 h3 h4 h5 h6 h7 h8 h9 h10 h11 ih =>
    refine .ow us G ((hs _ (.inr h5)).trans h1) h2 h3 h4 h5 h6 h7 h8 (fun k row o x hk ho => ih k row o x hk ho (fun b hb => hs b ?_)) h10 h11
    rcases hb with hb | hq
    · exact .inl hb
    · exact .inr (h10 _ _ _ hq).1
  | ow0 h => exact .ow0 h
  | rp us h1 h2 h3 ih =>
    refine .rp us h1 (fun o ho => ?_) (fun o x ho => ih o x ho (fun b hb => hs b (hb.imp id (fun hq => hq.elim))))
    rw [cell_same]
    · exact h2 o ho
    · rw [add_block]
      exact hs _ (.inl h1)
  | fn vs h1 h2 ih => exact .fn vs h1 (fun o x ho => ih o x ho (fun b hb => hs b (hb.imp id (fun hq => hq.elim))))
/-- What is read only may grow, by blocks that a tree doesn't own. -/
theorem Rep.grow {x : CV} {v : Value} {F : FP} (h : Rep P w I x v F) (hI : ∀ b, I b → I' b) (hd : ∀ b, I' b → I b ∨ ¬ F b) : Rep P w I' x v F := by
  induction h with
  | any h => exact .any h
  | b => exact .b
  | n => exact .n
  | s => exact .s
  | vl h => exact .vl h
  | sh us h1 h2 h3 h4 h5 ih =>
    refine .sh us h1 h2 (fun hp => ?_) h4 (fun k row o x hk ho => ih k row o x hk ho (fun b hb => .inr (fun hq => hq)))
    obtain ⟨ad, e1, e2, e3⟩ := h3 hp
    exact ⟨ad, e1, hI _ e2, e3⟩
  | ow us G h1 h2 h3 h4 h5 h6 h7 h8 h9 h10 h11 ih =>
    refine .ow us G h1 h2 h3 h4 h5 (fun hg => ?_) h7 h8 (fun k row o x hk ho => ih k row o x hk ho (fun b hb => ?_)) h10 h11
    · rcases hd _ hg with h | h
      · exact h6 h
      · exact h h5
    · rcases hd _ hb with h | h
      · exact .inl h
      · exact .inr (fun hq => h (h10 _ _ _ hq).1)
  | ow0 h => exact .ow0 h
  | rp us h1 h2 h3 ih => exact .rp us (hI _ h1) h2 (fun o x ho => ih o x ho (fun b hb => .inr (fun hq => hq)))
  | fn vs h1 h2 ih => exact .fn vs h1 (fun o x ho => ih o x ho (fun b hb => .inr (fun hq => hq)))

/-! ### Ways into a tree -/
abbrev Way := List (Nat × Nat)
def row? (es : List (List CV)) (k o : Nat) : Option CV := (es[k]?).bind (·[o]?)
def CV.get : CV → Way → Option CV
  | x, [] => some x
  | .ow _ es, (k, o) :: r => (row? es.l k o).bind fun x => x.get r
  | _, _ :: _ => none
def setRow (es : List (List CV)) (k o : Nat) (x : CV) : List (List CV) := es.modify k (·.set o x)
/-- One cell of one row set. -/
def setF (es : Rows CV) (k o : Nat) (x : CV) : Rows CV := ⟨es.n, fun i => if i = k then (es.f k).set o x else es.f i⟩
theorem setF_l (es : Rows CV) (k o : Nat) (x : CV) : (setF es k o x).l = setRow es.l k o x := by
  apply List.ext_getElem?
  intro i
  rw [Rows.l_at, setRow, List.getElem?_modify, Rows.l_at]
  simp only [setF]
  by_cases hi : i < es.n
  · by_cases hk : k = i
    · subst hk; simp [hi]
    · simp [hi, hk, show ¬ i = k from fun h => hk h.symm]
  · simp [hi]
theorem setF_out {es : Rows CV} {k o : Nat} {x : CV} (hk : ¬ k < es.n) : (setF es k o x).l = es.l := by
  apply List.ext_getElem?
  intro i
  rw [Rows.l_at, Rows.l_at]
  simp only [setF]
  by_cases hi : i < es.n
  · simp [hi, show ¬ i = k from fun h => hk (h ▸ hi)]
  · simp [hi]
theorem rowF {es : Rows CV} {k o : Nat} {x : CV} (h : row? es.l k o = some x) : (es.f k)[o]? = some x := by
  unfold row? at h
  rw [Rows.l_at] at h
  split at h
  · simpa using h
  · simp at h
theorem rowF' {es : Rows CV} {k o : Nat} {x : CV} (h : (es.f k)[o]? = some x) (hk : k < es.n) : row? es.l k o = some x := by
  unfold row?
  rw [Rows.l_at, if_pos hk]
  simpa using h
def CV.put (y : CV) : CV → Way → CV
  | _, [] => y
  | .ow e es, (k, o) :: r => match (es.f k)[o]? with
    | some x => .ow e (setF es k o (CV.put y x r))
    | none => .ow e es
  | x, _ :: _ => x
/-- The value at a way's end. -/
def conc (P : Program) (w : World) : CV → Value → Way → Option Value
  | _, u, [] => some u
  | .ow e es, .slice (some ⟨g, 0, none⟩) _ _, (k, o) :: r => (row? es.l k o).bind fun x => (w.cell? ⟨g, k * P.cellsOf e + o, none⟩).bind fun u => conc P w x u r
  | _, _, _ :: _ => none
theorem row_lt {es : List (List CV)} {k o : Nat} {x : CV} (h : row? es k o = some x) : ∃ row, es[k]? = some row ∧ row[o]? = some x ∧ o < row.length := by
  unfold row? at h
  obtain ⟨row, h1, h2⟩ := Option.bind_eq_some_iff.1 h
  exact ⟨row, h1, h2, (List.getElem?_eq_some_iff.1 h2).1⟩
theorem row_mk {es : List (List CV)} {k o : Nat} {x : CV} {row : List CV} (h : es[k]? = some row) (h' : row[o]? = some x) : row? es k o = some x := by
  unfold row?
  rw [h]
  exact h'
theorem setRow_length (es : List (List CV)) (k o : Nat) (x : CV) : (setRow es k o x).length = es.length := by simp [setRow]
theorem rawRow_length (es : Rows CV) (k o : Nat) (x : CV) : (setF es k o x).n = es.n := rfl
theorem setRow_at {es : List (List CV)} {k o : Nat} {x y : CV} {k' : Nat} {row' : List CV} (h : row? es k o = some x) (h' : (setRow es k o y)[k']? = some row') :
    ∃ row, es[k']? = some row ∧ row'.length = row.length ∧ ∀ o' z, row'[o']? = some z → (k' = k ∧ o' = o ∧ z = y) ∨ (¬ (k' = k ∧ o' = o) ∧ row[o']? = some z) := by
  obtain ⟨row, h1, h2, h3⟩ := row_lt h
  unfold setRow at h'
  rw [List.getElem?_modify] at h'
  by_cases hk : k = k'
  · subst hk
    rw [h1] at h'
    simp at h'
    subst h'
    refine ⟨row, h1, by simp, fun o' z hz => ?_⟩
    rw [List.getElem?_set] at hz
    by_cases ho : o = o'
    · subst ho
      simp [h3] at hz
      exact .inl ⟨rfl, rfl, hz.symm⟩
    · simp [ho] at hz
      exact .inr ⟨fun ⟨_, e⟩ => ho e.symm, hz⟩
  · simp [hk] at h'
    exact ⟨row', h', rfl, fun o' z hz => .inr ⟨fun ⟨e, _⟩ => hk e.symm, hz⟩⟩
theorem setRow_row {es : List (List CV)} {k o : Nat} {x y : CV} (h : row? es k o = some x) : row? (setRow es k o y) k o = some y := by
  obtain ⟨row, h1, h2, h3⟩ := row_lt h
  unfold row? setRow
  rw [List.getElem?_modify, h1]
  simp [h3]
theorem setRow_far {es : List (List CV)} {k o k' o' : Nat} {y : CV} (hne : ¬ (k = k' ∧ o = o')) : row? (setRow es k o y) k' o' = row? es k' o' := by
  unfold row? setRow
  rw [List.getElem?_modify]
  by_cases hk : k = k'
  · subst hk
    have ho : o ≠ o' := fun e => hne ⟨rfl, e⟩
    cases es[k]? with
    | none => rfl
    | some row => simp [List.getElem?_set, ho]
  · simp [hk]

/-- What stands at a way's end is a tree too. -/
theorem Rep.at_ {p : Way} : ∀ {x y : CV} {u : Value} {F : FP}, Rep P w I x u F → x.get p = some y → ∃ v G, conc P w x u p = some v ∧ Rep P w I y v G ∧ ∀ b, G b → F b := by
  induction p with
  | nil =>
    intro x y u F h hg
    simp [CV.get] at hg
    subst hg
    exact ⟨u, F, by simp [conc], h, fun _ h => h⟩
  | cons s r ih =>
    obtain ⟨k, o⟩ := s
    intro x y u F h hg
    cases h with
    | ow us G h1 h2 h3 h4 h5 h6 h7 h8 h9 h10 h11 =>
      rename_i e es g cap cur
      simp only [CV.get] at hg
      obtain ⟨z, hz, hg⟩ := Option.bind_eq_some_iff.1 hg
      obtain ⟨row, r1, r2, r3⟩ := row_lt hz
      obtain ⟨v, G', c1, c2, c3⟩ := ih (h9 k row o z r1 r2) hg
      refine ⟨v, G', ?_, c2, fun b hq => (h10 _ _ _ (c3 b hq)).1⟩
      simp only [conc, hz, Option.bind_some]
      rw [show w.cell? ⟨g, k * P.cellsOf e + o, none⟩ = some (us k o) from by simp [World.cell?, h1, h8 k row o r1 r3]]
      simpa using c1
    | ow0 h0 => simp [CV.get, row?, Rows.l, h0] at hg
    | _ => simp [CV.get] at hg
/-- A tree, and what stands at a way's end, apart. -/
theorem Rep.take {p : Way} : ∀ {x y : CV} {u : Value} {F : FP}, Rep P w I x u F → x.get p = some y →
    ∃ v F1 F2, conc P w x u p = some v ∧ Rep P w I y v F2 ∧ Rep P w I (CV.put .any x p) u F1 ∧ (∀ b, F1 b → F b) ∧ (∀ b, F2 b → F b) ∧ (∀ b, F1 b → F2 b → False) := by
  induction p with
  | nil =>
    intro x y u F h hg
    simp [CV.get] at hg
    subst hg
    exact ⟨u, FP.none, F, by simp [conc], h, by simpa [CV.put] using Rep.any h.one, fun _ h => h.elim, fun _ h => h, fun _ h _ => h.elim⟩
  | cons s r ih =>
    obtain ⟨k, o⟩ := s
    intro x y u F h hg
    cases h with
    | ow us G h1 h2 h3 h4 h5 h6 h7 h8 h9 h10 h11 =>
      rename_i e es g cap cur
      simp only [CV.get] at hg
      obtain ⟨z, hz, hg⟩ := Option.bind_eq_some_iff.1 hg
      obtain ⟨row, r1, r2, r3⟩ := row_lt hz
      obtain ⟨v, F1, F2, c1, c2, c3, c4, c5, c6⟩ := ih (h9 k row o z r1 r2) hg
      have hput : CV.put .any (.ow e es) ((k, o) :: r) = .ow e (setF es k o (CV.put .any z r)) := by simp [CV.put, rowF hz]
      refine ⟨v, fun b => F b ∧ ¬ F2 b, F2, ?_, c2, ?_, fun b h => h.1, fun b hq => (h10 _ _ _ (c5 b hq)).1, fun b h h' => h.2 h'⟩
      · simp only [conc, hz, Option.bind_some]
        rw [show w.cell? ⟨g, k * P.cellsOf e + o, none⟩ = some (us k o) from by simp [World.cell?, h1, h8 k row o r1 r3]]
        simpa using c1
      · rw [hput, ← rawRow_length es k o (CV.put .any z r)]
        refine .ow us (fun k' o' => if k' = k ∧ o' = o then F1 else G k' o') h1 h2 (by rw [rawRow_length]; exact h3) h4 ⟨h5, fun hq => (h10 _ _ _ (c5 _ hq)).2 rfl⟩ h6 ?_ ?_ ?_ ?_ ?_
        · intro k' row' hk'
          rw [setF_l] at hk'
          obtain ⟨row0, a1, a2, a3⟩ := setRow_at hz hk'
          rw [a2]; exact h7 k' row0 a1
        · intro k' row' o' hk' ho'
          rw [setF_l] at hk'
          obtain ⟨row0, a1, a2, a3⟩ := setRow_at hz hk'
          exact h8 k' row0 o' a1 (by omega)
        · intro k' row' o' z' hk' ho'
          rw [setF_l] at hk'
          obtain ⟨row0, a1, a2, a3⟩ := setRow_at hz hk'
          rcases a3 o' z' ho' with ⟨rfl, rfl, rfl⟩ | ⟨hne, h0⟩
          · simpa using c3
          · simpa [hne] using h9 k' row0 o' z' a1 h0
        · intro k' o' b hb
          by_cases hko : k' = k ∧ o' = o
          · simp [hko] at hb
            have := h10 _ _ _ (c4 b hb)
            exact ⟨⟨this.1, fun h => c6 b hb h⟩, this.2⟩
          · simp [hko] at hb
            have := h10 _ _ _ hb
            refine ⟨⟨this.1, fun h => ?_⟩, this.2⟩
            exact hko (h11 _ _ _ _ _ hb (c5 b h))
        · intro k1 o1 k2 o2 b hb1 hb2
          have e1 : G k1 o1 b := by
            by_cases hko : k1 = k ∧ o1 = o
            · simp [hko] at hb1; rw [hko.1, hko.2]; exact c4 b hb1
            · simpa [hko] using hb1
          have e2 : G k2 o2 b := by
            by_cases hko : k2 = k ∧ o2 = o
            · simp [hko] at hb2; rw [hko.1, hko.2]; exact c4 b hb2
            · simpa [hko] using hb2
          exact h11 _ _ _ _ _ e1 e2
    | ow0 h0 => simp [CV.get, row?, Rows.l, h0] at hg
    | _ => simp [CV.get] at hg
/-- A way's end hangs on the tree's own blocks alone. -/
theorem conc_same {p : Way} : ∀ {x y : CV} {u : Value} {F : FP}, Rep P w I x u F → x.get p = some y → (∀ b, F b → w'.heap[b]? = w.heap[b]?) → conc P w' x u p = conc P w x u p := by
  induction p with
  | nil => intro x y u F h hg hs; simp [conc]
  | cons s r ih =>
    obtain ⟨k, o⟩ := s
    intro x y u F h hg hs
    cases h with
    | ow us G h1 h2 h3 h4 h5 h6 h7 h8 h9 h10 h11 =>
      rename_i e es g cap cur
      simp only [CV.get] at hg
      obtain ⟨z, hz, hg⟩ := Option.bind_eq_some_iff.1 hg
      obtain ⟨row, r1, r2, r3⟩ := row_lt hz
      have hc : w.cell? ⟨g, k * P.cellsOf e + o, none⟩ = some (us k o) := by simp [World.cell?, h1, h8 k row o r1 r3]
      have hc' : w'.cell? ⟨g, k * P.cellsOf e + o, none⟩ = some (us k o) := by rw [cell_same (hs g h5)]; exact hc
      simp only [conc, hz, Option.bind_some, hc, hc']
      exact ih (h9 k row o z r1 r2) hg (fun b hq => hs b (h10 _ _ _ hq).1)
    | ow0 h0 => simp [CV.get, row?, Rows.l, h0] at hg
    | _ => simp [CV.get] at hg
end Go.Proofs.AI

namespace Go.Proofs.AI
open Go.RowKit
set_option linter.unusedVariables false
set_option linter.unusedSimpArgs false
variable {P : Program} {w w' : World} {I I' : Nat → Prop}

theorem heap_set (w : World) (g a : Nat) (v : Value) {cur : Array Value} {e : TypeId} {fr : Nat × Nat} (h : w.heap[g]? = some (.cells cur e fr)) :
    (w.setCell ⟨g, a, none⟩ v).heap[g]? = some (.cells (cur.setIfInBounds a v) e fr) := by
  simp [World.setCell, Array.getElem?_modify, h]
theorem heap_far (w : World) (g a : Nat) (v : Value) {b : Nat} (h : b ≠ g) : (w.setCell ⟨g, a, none⟩ v).heap[b]? = w.heap[b]? := Below.heap_setCell w ⟨g, a, none⟩ v b h
/-- The place of a way's end, of a way that is not empty. -/
def spot (P : Program) (w : World) : CV → Value → Way → Option (Nat × Nat)
  | .ow e es, .slice (some ⟨g, 0, none⟩) _ _, (k, o) :: r => (row? es.l k o).bind fun x => match r with
    | [] => some (g, k * P.cellsOf e + o)
    | _ => (w.cell? ⟨g, k * P.cellsOf e + o, none⟩).bind fun u => spot P w x u r
  | _, _, _ => none
theorem Rep.store {p : Way} : ∀ {x y0 : CV} {u : Value} {F : FP}, Rep P w I x u F → x.get p = some y0 → p ≠ [] →
    ∃ g a, spot P w x u p = some (g, a) ∧ F g ∧ ¬ I g ∧ (∃ cur e, w.heap[g]? = some (.cells cur e (0, 0)) ∧ a < cur.size ∧ ∃ v0, conc P w x u p = some v0 ∧ cur[a]? = some v0) ∧
      ∀ y v F2, Rep P w I y v F2 → (∀ b, F2 b → F b → False) → Rep P (w.setCell ⟨g, a, none⟩ v) I (CV.put y x p) u (fun b => F b ∨ F2 b) := by
  induction p with
  | nil => intro x y0 u F h hg hne; exact absurd rfl hne
  | cons s r ih =>
    obtain ⟨k, o⟩ := s
    intro x y0 u F h hg _
    cases h with
    | ow us G h1 h2 h3 h4 h5 h6 h7 h8 h9 h10 h11 =>
      rename_i e es g cap cur
      simp only [CV.get] at hg
      obtain ⟨z, hz, hg⟩ := Option.bind_eq_some_iff.1 hg
      obtain ⟨row, r1, r2, r3⟩ := row_lt hz
      have hz7 := h7 k row r1
      have hcur := h8 k row o r1 r3
      have hc : w.cell? ⟨g, k * P.cellsOf e + o, none⟩ = some (us k o) := by simp [World.cell?, h1, hcur]
      have hlt : k * P.cellsOf e + o < cur.size := by
        rcases Nat.lt_or_ge (k * P.cellsOf e + o) cur.size with h | h
        · exact h
        · rw [Array.getElem?_eq_none h] at hcur; cases hcur
      -- two cells of the row at one place are one
      have inj : ∀ k1 o1, k1 < es.n → o1 < P.cellsOf e → k1 * P.cellsOf e + o1 = k * P.cellsOf e + o → k1 = k ∧ o1 = o := by
        intro k1 o1 _ ho1 he
        have hok : o < P.cellsOf e := by omega
        have hk : k1 = k := by
          have a1 : (k1 * P.cellsOf e + o1) / P.cellsOf e = k1 := by rw [Nat.mul_comm, Nat.mul_add_div (by omega), Nat.div_eq_of_lt ho1]; omega
          have a2 : (k * P.cellsOf e + o) / P.cellsOf e = k := by rw [Nat.mul_comm, Nat.mul_add_div (by omega), Nat.div_eq_of_lt hok]; omega
          rw [← a1, he, a2]
        subst hk
        exact ⟨rfl, by omega⟩
      cases r with
      | nil =>
        simp [CV.get] at hg
        subst hg
        refine ⟨g, k * P.cellsOf e + o, by simp [spot, hz], h5, h6, ⟨cur, e, h1, hlt, us k o, by simp [conc, hz, hc], hcur⟩, ?_⟩
        intro y v F2 hy hd
        have hy' : Rep P (w.setCell ⟨g, k * P.cellsOf e + o, none⟩ v) I y v F2 := hy.frame (fun b hb => heap_far _ _ _ _ (by
          rintro rfl
          rcases hb with hb | hq
          · exact h6 hb
          · exact hd _ hq h5))
        have hput : CV.put y (.ow e es) [(k, o)] = .ow e (setF es k o y) := by simp [CV.put, rowF hz]
        rw [hput, ← rawRow_length es k o y]
        refine .ow (fun k' o' => if k' = k ∧ o' = o then v else us k' o') (fun k' o' => if k' = k ∧ o' = o then F2 else G k' o') (heap_set _ _ _ _ h1) (by simpa using h2) (by rw [rawRow_length]; exact h3) h4 (.inl h5) h6 ?_ ?_ ?_ ?_ ?_
        · intro k' row' hk'
          obtain ⟨row0, a1, a2, a3⟩ := setRow_at hz (by rwa [setF_l] at hk')
          rw [a2]; exact h7 k' row0 a1
        · intro k' row' o' hk' ho'
          obtain ⟨row0, a1, a2, a3⟩ := setRow_at hz (by rwa [setF_l] at hk')
          have hko := h8 k' row0 o' a1 (by omega)
          rw [Array.getElem?_setIfInBounds]
          by_cases hkk : k' = k ∧ o' = o
          · obtain ⟨rfl, rfl⟩ := hkk
            simp [hlt]
          · have hne : ¬ k * P.cellsOf e + o = k' * P.cellsOf e + o' := fun he => hkk (inj k' o' (Rows.l_lt a1).1 (by have := h7 k' row0 a1; omega) he.symm)
            simp [hne, hkk, hko]
        · intro k' row' o' z' hk' ho'
          obtain ⟨row0, a1, a2, a3⟩ := setRow_at hz (by rwa [setF_l] at hk')
          rcases a3 o' z' ho' with ⟨rfl, rfl, rfl⟩ | ⟨hne, h0⟩
          · simpa using hy'
          · simp only [hne, if_false]
            refine (h9 k' row0 o' z' a1 h0).frame (fun b hb => heap_far _ _ _ _ (by
              rintro rfl
              rcases hb with hb | hq
              · exact h6 hb
              · exact (h10 _ _ _ hq).2 rfl))
        · intro k' o' b hb
          by_cases hko : k' = k ∧ o' = o
          · simp [hko] at hb
            exact ⟨.inr hb, by rintro rfl; exact hd _ hb h5⟩
          · simp [hko] at hb
            exact ⟨.inl (h10 _ _ _ hb).1, (h10 _ _ _ hb).2⟩
        · intro k1 o1 k2 o2 b hb1 hb2
          by_cases hk1 : k1 = k ∧ o1 = o <;> by_cases hk2 : k2 = k ∧ o2 = o
          · exact ⟨hk1.1.trans hk2.1.symm, hk1.2.trans hk2.2.symm⟩
          · simp [hk1] at hb1; simp [hk2] at hb2
            exact (hd b hb1 (h10 _ _ _ hb2).1).elim
          · simp [hk1] at hb1; simp [hk2] at hb2
            exact (hd b hb2 (h10 _ _ _ hb1).1).elim
          · simp [hk1] at hb1; simp [hk2] at hb2
            exact h11 _ _ _ _ _ hb1 hb2
      | cons s' r' =>
        obtain ⟨g', a', s1, s2, s3, ⟨cur', e', t1, t2, v0, t4, t5⟩, s5⟩ := ih (h9 k row o z r1 r2) hg (by simp)
        have hgg : g' ≠ g := (h10 _ _ _ s2).2
        have hFg : F g' := (h10 _ _ _ s2).1
        refine ⟨g', a', by simp [spot, hz, hc, s1], hFg, s3, ⟨cur', e', t1, t2, v0, by simp [conc, hz, hc, t4], t5⟩, ?_⟩
        intro y v F2 hy hd
        have hx := s5 y v F2 hy (fun b hb hb' => hd b hb (h10 _ _ _ hb').1)
        have hput : CV.put y (.ow e es) ((k, o) :: s' :: r') = .ow e (setF es k o (CV.put y z (s' :: r'))) := by simp [CV.put, rowF hz]
        rw [hput, ← rawRow_length es k o (CV.put y z (s' :: r'))]
        refine .ow us (fun k' o' => if k' = k ∧ o' = o then (fun b => G k o b ∨ F2 b) else G k' o') ((heap_far _ _ _ _ (Ne.symm hgg)).trans h1) h2 (by rw [rawRow_length]; exact h3) h4 (.inl h5) h6 ?_ ?_ ?_ ?_ ?_
        · intro k' row' hk'
          obtain ⟨row0, a1, a2, a3⟩ := setRow_at hz (by rwa [setF_l] at hk')
          rw [a2]; exact h7 k' row0 a1
        · intro k' row' o' hk' ho'
          obtain ⟨row0, a1, a2, a3⟩ := setRow_at hz (by rwa [setF_l] at hk')
          exact h8 k' row0 o' a1 (by omega)
        · intro k' row' o' z' hk' ho'
          obtain ⟨row0, a1, a2, a3⟩ := setRow_at hz (by rwa [setF_l] at hk')
          rcases a3 o' z' ho' with ⟨rfl, rfl, rfl⟩ | ⟨hne, h0⟩
          · simpa using hx
          · simp only [hne, if_false]
            refine (h9 k' row0 o' z' a1 h0).frame (fun b hb => heap_far _ _ _ _ (by
              rintro rfl
              rcases hb with hb | hq
              · exact s3 hb
              · exact hne (h11 _ _ _ _ _ hq s2)))
        · intro k' o' b hb
          by_cases hko : k' = k ∧ o' = o
          · simp [hko] at hb
            rcases hb with hb | hb
            · exact ⟨.inl (h10 _ _ _ hb).1, (h10 _ _ _ hb).2⟩
            · exact ⟨.inr hb, by rintro rfl; exact hd _ hb h5⟩
          · simp [hko] at hb
            exact ⟨.inl (h10 _ _ _ hb).1, (h10 _ _ _ hb).2⟩
        · intro k1 o1 k2 o2 b hb1 hb2
          by_cases hk1 : k1 = k ∧ o1 = o <;> by_cases hk2 : k2 = k ∧ o2 = o
          · exact ⟨hk1.1.trans hk2.1.symm, hk1.2.trans hk2.2.symm⟩
          · simp [hk1] at hb1; simp [hk2] at hb2
            rcases hb1 with hb1 | hb1
            · have := h11 _ _ _ _ _ hb1 hb2; exact absurd ⟨this.1.symm, this.2.symm⟩ hk2
            · exact (hd b hb1 (h10 _ _ _ hb2).1).elim
          · simp [hk1] at hb1; simp [hk2] at hb2
            rcases hb2 with hb2 | hb2
            · have := h11 _ _ _ _ _ hb1 hb2; exact absurd ⟨this.1, this.2⟩ hk1
            · exact (hd b hb2 (h10 _ _ _ hb1).1).elim
          · simp [hk1] at hb1; simp [hk2] at hb2
            exact h11 _ _ _ _ _ hb1 hb2
    | ow0 h0 => simp [CV.get, row?, Rows.l, h0] at hg
    | _ => simp [CV.get] at hg
/-- Whether a way may lie on, or below, another one's end (the elements' numbers aside). -/
def under : Way → Way → Bool
  | [], _ => true
  | _ :: _, [] => false
  | (_, o) :: q, (_, o') :: p => o == o' && under q p
theorem Rep.far {q : Way} : ∀ {p : Way} {x y0 y1 : CV} {u : Value} {F : FP} {g a : Nat} {y : CV} {v : Value}, Rep P w I x u F → x.get q = some y0 → q ≠ [] → spot P w x u q = some (g, a) → x.get p = some y1 → under q p = false →
    (CV.put y x q).get p = (if under p q then (CV.put y x q).get p else some y1) ∧ conc P (w.setCell ⟨g, a, none⟩ v) (CV.put y x q) u p = conc P w x u p := by
  induction q with
  | nil => intro p x y0 y1 u F g a y v h hg hne; exact absurd rfl hne
  | cons s r ih =>
    obtain ⟨k, o⟩ := s
    intro p x y0 y1 u F g' a y v h hg _ hs hp hu
    cases p with
    | nil => exact ⟨by simp [under], by simp [conc]⟩
    | cons s' p' =>
      obtain ⟨k', o'⟩ := s'
      have hstore := h.store hg (by simp)
      cases h with
      | ow us G h1 h2 h3 h4 h5 h6 h7 h8 h9 h10 h11 =>
        rename_i e es g cap cur
        obtain ⟨g1, a1, s1, s2, s3, ⟨cur1, e1, t1, t2, v0, t4, t5⟩, _⟩ := hstore
        rw [hs] at s1
        obtain ⟨rfl, rfl⟩ : g' = g1 ∧ a = a1 := by simpa using s1
        simp only [CV.get] at hg hp
        obtain ⟨z, hz, hg⟩ := Option.bind_eq_some_iff.1 hg
        obtain ⟨z', hz', hp⟩ := Option.bind_eq_some_iff.1 hp
        obtain ⟨row, r1, r2, r3⟩ := row_lt hz
        obtain ⟨row', r1', r2', r3'⟩ := row_lt hz'
        have hc : w.cell? ⟨g, k * P.cellsOf e + o, none⟩ = some (us k o) := by simp [World.cell?, h1, h8 k row o r1 r3]
        have hc' : w.cell? ⟨g, k' * P.cellsOf e + o', none⟩ = some (us k' o') := by simp [World.cell?, h1, h8 k' row' o' r1' r3']
        have hput : CV.put y (.ow e es) ((k, o) :: r) = .ow e (setF es k o (CV.put y z r)) := by simp [CV.put, rowF hz]
        have l1 := h7 k row r1
        have l2 := h7 k' row' r1'
        rw [hput]
        by_cases hkk : k = k' ∧ o = o'
        · obtain ⟨rfl, rfl⟩ := hkk
          obtain rfl : z = z' := by rw [hz] at hz'; exact Option.some.inj hz'
          have hu' : under r p' = false := by simpa [under] using hu
          have hr : r ≠ [] := by rintro rfl; simp [under] at hu'
          have hs' : spot P w z (us k o) r = some (g', a) := by
            cases r with
            | nil => exact absurd rfl hr
            | cons s2 r2 => simpa [spot, hz, hc] using hs
          have hgg : g' ≠ g := by
            obtain ⟨g2, a2, q1, q2, _⟩ := (h9 k row o z r1 r2).store hg hr
            rw [hs'] at q1
            obtain ⟨rfl, rfl⟩ : g' = g2 ∧ a = a2 := by simpa using q1
            exact (h10 _ _ _ q2).2
          have hcs : (w.setCell ⟨g', a, none⟩ v).cell? ⟨g, k * P.cellsOf e + o, none⟩ = some (us k o) := by
            rw [cell_same (heap_far _ _ _ _ (Ne.symm hgg))]; exact hc
          obtain ⟨i1, i2⟩ := ih (y := y) (v := v) (h9 k row o z r1 r2) hg hr hs' hp hu'
          refine ⟨?_, ?_⟩
          · simp only [CV.get, setF_l, setRow_row hz, Option.bind_some, under, beq_self_eq_true, Bool.true_and]
            exact i1
          · simp only [conc, setF_l, setRow_row hz, hz, Option.bind_some, hcs, hc]
            exact i2
        · have hrow : row? (setF es k o (CV.put y z r)).l k' o' = some z' := by rw [setF_l]; exact (setRow_far hkk).trans hz'
          have hne : (k * P.cellsOf e + o) ≠ (k' * P.cellsOf e + o') := by
            intro he
            have hok : o < P.cellsOf e := by omega
            have hok' : o' < P.cellsOf e := by omega
            have hk : k = k' := by
              have a1 : (k * P.cellsOf e + o) / P.cellsOf e = k := by rw [Nat.mul_comm, Nat.mul_add_div (by omega), Nat.div_eq_of_lt hok]; omega
              have a2 : (k' * P.cellsOf e + o') / P.cellsOf e = k' := by rw [Nat.mul_comm, Nat.mul_add_div (by omega), Nat.div_eq_of_lt hok']; omega
              rw [← a1, he, a2]
            subst hk
            exact hkk ⟨rfl, by omega⟩
          -- where the store lies
          have hwhere : (g' = g ∧ a = k * P.cellsOf e + o) ∨ (g' ≠ g ∧ G k o g') := by
            cases r with
            | nil => left; simpa [spot, hz, eq_comm] using hs
            | cons s9 r9 =>
              right
              have hs' : spot P w z (us k o) (s9 :: r9) = some (g', a) := by simpa [spot, hz, hc] using hs
              obtain ⟨g2, a2, q1, q2, _⟩ := (h9 k row o z r1 r2).store hg (by simp)
              rw [hs'] at q1
              obtain ⟨rfl, rfl⟩ : g' = g2 ∧ a = a2 := by simpa using q1
              exact ⟨(h10 _ _ _ q2).2, q2⟩
          have hcs : (w.setCell ⟨g', a, none⟩ v).cell? ⟨g, k' * P.cellsOf e + o', none⟩ = some (us k' o') := by
            rcases hwhere with ⟨rfl, rfl⟩ | ⟨hgg, _⟩
            · have := h8 k' row' o' r1' r3'
              simp [World.cell?, heap_set _ _ _ _ h1, Array.getElem?_setIfInBounds, hne, this]
            · rw [cell_same (heap_far _ _ _ _ (Ne.symm hgg))]; exact hc'
          refine ⟨?_, ?_⟩
          · simp only [CV.get, hrow, Option.bind_some, hp]
            split <;> rfl
          · simp only [conc, hrow, hz', Option.bind_some, hcs, hc']
            refine conc_same (h9 k' row' o' z' r1' r2') hp (fun b hq => heap_far _ _ _ _ ?_)
            rintro rfl
            rcases hwhere with ⟨rfl, rfl⟩ | ⟨hgg, hG⟩
            · exact (h10 _ _ _ hq).2 rfl
            · have := h11 _ _ _ _ _ hq hG
              exact hkk ⟨this.1.symm, this.2.symm⟩
      | ow0 h0 => simp [CV.get, row?, Rows.l, h0] at hp
      | _ => simp [CV.get] at hp
end Go.Proofs.AI

namespace Go.Proofs.AI
open Go.RowKit
set_option linter.unusedVariables false
set_option linter.unusedSimpArgs false
variable {P : Program} {w w' : World} {I I' : Nat → Prop}

inductive Sh where
  | one | agg | box
  | tup (sig : List (Bool × Nat))
  deriving DecidableEq
/-- The parts of a tuple, out of its cells. -/
def tupParts : List (Bool × Nat) → (Nat → Value) → List Value
  | [], _ => []
  | (false, m) :: r, us => us 0 :: tupParts r (fun j => us (m + j))
  | (true, m) :: r, us => .agg (Array.ofFn (n := m) fun j => us j) :: tupParts r (fun j => us (m + j))
/-- One cell of a slot: data; a look at a slice of one's own (slot, cell, way, the log's length, bounds); a pointer to a cell of a box; a pointer into a slice of one's own; a pointer into a row that is read only; a function value. -/
inductive SC where
  | c (x : CV)
  | v (e : TypeId) (k o : Nat) (p : Way) (n : Nat) (r : Option (Nat × Nat))
  | pr (k o n : Nat)
  | p (e : TypeId) (k o : Nat) (p : Way) (n i j : Nat)
  | q (row : List CV) (o : Nat)
  | fn (f : FuncId) (ks : List (Nat × Nat))
abbrev Log := List (Option (Nat × Way))
structure Ky where
  sh : Sh
  cells : List SC
  log : Log
abbrev St := Nat → Option Ky
def hits (o : Nat) (p : Way) : Option (Nat × Way) → Bool
  | none => true
  | some (o', q) => o' == o && under q p
def stale (l : Log) (n o : Nat) (p : Way) : Bool := (l.drop n).any (hits o p)
def gone (l : Log) (n : Nat) : Bool := (l.drop n).any Option.isNone
/-- A slice expression's value. -/
def sub (P : Program) (e : TypeId) (u : Value) : Option (Nat × Nat) → Value
  | none => u
  | some (lo, hi) => match u with
    | .slice A n c => .slice (if c = lo then A else A.map (·.add (lo * P.cellsOf e))) (hi - lo) (c - lo)
    | u => u
def SCRep (P : Program) (w : World) (I : Nat → Prop) (σ : St) (U : Nat → Nat → Value) (B : Nat → Nat × Nat) (x : SC) (v : Value) (F : FP) : Prop :=
  match x with
  | .c x => Rep P w I x v F
  | .v e k o p n r => One v ∧ ∃ K, σ k = some K ∧ n ≤ K.log.length ∧ (stale K.log n o p = false → ∀ x0 y, K.cells[o]? = some (.c x0) → x0.get p = some y → ∃ u, conc P w x0 (U k o) p = some u ∧ v = sub P e u r)
  | .pr k o n => (∃ ad : Addr, v = .pointer (some ad)) ∧ ∃ K, σ k = some K ∧ n ≤ K.log.length ∧ (gone K.log n = false → K.sh = .box → v = .pointer (some ⟨(B k).1, (B k).2 + o, none⟩))
  | .p e k o p n i j => (∃ ad : Addr, v = .pointer (some ad)) ∧ ∃ K, σ k = some K ∧ n ≤ K.log.length ∧ (stale K.log n o p = false → ∀ x0 es, K.cells[o]? = some (.c x0) → x0.get p = some (.ow e es) → ∃ g m c, conc P w x0 (U k o) p = some (.slice (some ⟨g, 0, none⟩) m c) ∧ v = .pointer (some ⟨g, i * P.cellsOf e + j, none⟩))
  | .q row o => ∃ ad : Addr, v = .pointer (some (ad.add o)) ∧ I ad.block ∧ ∀ j x, row[j]? = some x → ∃ u, w.cell? (ad.add j) = some u ∧ Rep P w I x u FP.none
  | .fn f ks => ∃ vs : Array Value, v = .func (.func f) #[] vs ∧ vs.size = ks.length ∧ ∀ (i k n : Nat), ks[i]? = some (k, n) → (∃ ad : Addr, vs.getD i undef = .pointer (some ad)) ∧ ∃ K, σ k = some K ∧ n ≤ K.log.length ∧ (gone K.log n = false → K.sh = .box → vs.getD i undef = .pointer (some ⟨(B k).1, (B k).2, none⟩))
def RootAt (w : World) (K : Ky) (v : Value) (us : Nat → Value) (B : Nat × Nat) : Prop :=
  (∀ o, o < K.cells.length → One (us o)) ∧
  match K.sh with
  | .one => K.cells.length = 1 ∧ v = us 0
  | .agg => ∃ arr : Array Value, v = .agg arr ∧ arr.size = K.cells.length ∧ ∀ o, o < K.cells.length → arr[o]? = some (us o)
  | .tup sig => v = .tuple (tupParts sig us).toArray
  | .box => 0 < K.cells.length ∧ v = .pointer (some ⟨B.1, B.2, none⟩) ∧ ∃ cur e, w.heap[B.1]? = some (.cells cur e (0, 0)) ∧ ∀ o, o < K.cells.length → cur[B.2 + o]? = some (us o)
/-- The block that a box lies in. -/
def rootFP (K : Ky) (B : Nat × Nat) : FP := fun b => K.sh = .box ∧ b = B.1
/-- Cells (block, offset) that a call may write. -/
abbrev CP := Nat → Nat → Prop
def CP.none : CP := fun _ _ => False
/-- A slot, its cells and what they own. -/
structure KR (P : Program) (w : World) (I : Nat → Prop) (σ : St) (U : Nat → Nat → Value) (B : Nat → Nat × Nat) (t : Nat) (K : Ky) (v : Value) (F : FP) : Prop where
  root : RootAt w K v (U t) (B t)
  cells : ∃ N : Nat → FP, (∀ o x, K.cells[o]? = some x → SCRep P w I σ U B x (U t o) (N o)) ∧ (∀ o o' b, N o b → N o' b → o = o') ∧ (∀ o b, N o b → F b ∧ ¬ rootFP K (B t) b)
  rootF : ∀ b, rootFP K (B t) b → F b
/-- What has turned since a call began: what the call may write, and new blocks. -/
structure Fr (w0 w : World) (F0 : CP) : Prop where
  os : w.os = w0.os
  tape : w.tape = w0.tape
  output : w.output = w0.output
  size : w0.heap.size ≤ w.heap.size
  block : ∀ b, b < w0.heap.size → (∀ q, ¬ F0 b q) → w.heap[b]? = w0.heap[b]?
  part : ∀ b cs e fr, (¬ ∀ q, F0 b q) → w0.heap[b]? = some (.cells cs e fr) → ∃ cs', w.heap[b]? = some (.cells cs' e fr) ∧ ∀ q, ¬ F0 b q → cs'[q]? = cs[q]?
structure Cx where
  P : Program
  n : Nat
  w0 : World
  F0 : CP
  I0 : Nat → Prop
  pn : List Nat
  args : Array Value
structure RelW (cx : Cx) (I : Nat → Prop) (U : Nat → Nat → Value) (B : Nat → Nat × Nat) (F : Nat → FP) (σ : St) (a : Act) (w : World) : Prop where
  size : a.tmps.size = cx.n
  defers : a.defers = []
  key : ∀ t K, σ t = some K → t < cx.n ∧ KR cx.P w I σ U B t K (a.tmps.getD t undef) (F t)
  dis : ∀ t t' b, F t b → F t' b → t = t'
  own : ∀ t b, F t b → b < w.heap.size ∧ ¬ I b
  may : ∀ t b, F t b → cx.w0.heap.size ≤ b ∨ (∀ q, cx.F0 b q) ∨ ∃ K, σ t = some K ∧ rootFP K (B t) b ∧ ∀ q, (B t).2 ≤ q → q < (B t).2 + K.cells.length → cx.F0 b q
  ro : ∀ b, I b → b < w.heap.size
  ro0 : ∀ b, cx.I0 b → I b
  roN : ∀ b, I b → cx.I0 b ∨ cx.w0.heap.size ≤ b ∨ ∀ q, cx.F0 b q
  fr : Fr cx.w0 w cx.F0
def Rel (cx : Cx) (σ : St) (a : Act) (w : World) : Prop := ∃ I U B F, RelW cx I U B F σ a w

theorem Fr.refl (w : World) (F0 : CP) : Fr w w F0 := ⟨rfl, rfl, rfl, Nat.le_refl _, fun _ _ _ => rfl, fun b cs e fr _ h => ⟨cs, h, fun _ _ => rfl⟩⟩
theorem Fr.trans {w0 w1 w2 : World} {F F1 : CP} (h : Fr w0 w1 F) (k : Fr w1 w2 F1) (hF : ∀ b q, F1 b q → w0.heap.size ≤ b ∨ F b q) : Fr w0 w2 F := by
  refine ⟨k.os.trans h.os, k.tape.trans h.tape, k.output.trans h.output, Nat.le_trans h.size k.size, fun b hb hn => ?_, fun b cs e fr hp hc => ?_⟩
  · rw [k.block b (Nat.lt_of_lt_of_le hb h.size) (fun q hq => ?_), h.block b hb hn]
    rcases hF b q hq with h1 | h1
    · omega
    · exact hn q h1
  · have hb : b < w0.heap.size := (Array.getElem?_eq_some_iff.1 hc).1
    obtain ⟨cs1, h1, h3⟩ := h.part b cs e fr hp hc
    obtain ⟨cs2, k1, k3⟩ := k.part b cs1 e fr (fun hall => hp (fun q => (hF b q (hall q)).resolve_left (by omega))) h1
    refine ⟨cs2, k1, fun q hq => (k3 q (fun h4 => ?_)).trans (h3 q hq)⟩
    rcases hF b q h4 with h5 | h5
    · omega
    · exact hq h5
theorem Fr.mono {w0 w1 : World} {F F1 : CP} (h : Fr w0 w1 F) (hF : ∀ b q, F b q → F1 b q) : Fr w0 w1 F1 :=
  ⟨h.os, h.tape, h.output, h.size, fun b hb hn => h.block b hb (fun q hq => hn q (hF _ _ hq)), fun b cs e fr hp hc => by
    obtain ⟨cs1, h1, h3⟩ := h.part b cs e fr (fun hall => hp (fun q => hF _ _ (hall q))) hc
    exact ⟨cs1, h1, fun q hq => h3 q (fun h4 => hq (hF _ _ h4))⟩⟩
theorem Fr.alloc {w : World} (o : Obj) (F : CP) : Fr w (w.alloc o) F := by
  refine ⟨rfl, rfl, rfl, by simp, fun b hb _ => Below.heap_alloc _ _ _ hb, fun b cs e fr _ h => ⟨cs, ?_, fun _ _ => rfl⟩⟩
  rw [Below.heap_alloc _ _ _ (Array.getElem?_eq_some_iff.1 h).1]
  exact h
theorem Fr.set {w : World} {g a : Nat} {F : CP} (v : Value) (h : F g a) : Fr w (w.setCell ⟨g, a, none⟩ v) F := by
  refine ⟨rfl, rfl, rfl, by simp [World.setCell], fun b hb hn => heap_far _ _ _ _ (by rintro rfl; exact hn _ h), fun b cs e fr _ hc => ?_⟩
  by_cases hb : b = g
  · subst hb
    refine ⟨_, heap_set _ _ _ _ hc, fun q hq => ?_⟩
    rw [Array.getElem?_setIfInBounds]
    split
    · rename_i h1; subst h1; exact absurd h hq
    · rfl
  · exact ⟨cs, (heap_far _ _ _ _ hb).trans hc, fun _ _ => rfl⟩
theorem Fr.drew {w : World} (F : CP) : Fr w { w with drawn := w.drawn + 1 } F := ⟨rfl, rfl, rfl, Nat.le_refl _, fun _ _ _ => rfl, fun b cs e fr _ h => ⟨cs, h, fun _ _ => rfl⟩⟩
theorem Fr.grown {w w' : World} {g : Option Nat} {F : CP} (h : w.grownBy w' g) (hF : ∀ k, g = some k → ∀ q, F k q) : Fr w w' F := by
  refine ⟨h.os, h.tape, h.output, h.size, fun b hb hn => h.block b hb (fun e => hn 0 (hF b e.symm 0)), fun b cs e fr hp hc => ?_⟩
  by_cases hb : g = some b
  · exact absurd (hF b hb) hp
  · exact ⟨cs, (h.block b (Array.getElem?_eq_some_iff.1 hc).1 (Ne.symm hb)).trans hc, fun _ _ => rfl⟩

/-! ### One step of many slots -/
/-- What a look into slot k that was good, and is not stale, is good for behind a step. -/
structure Pres (P : Program) (w w' : World) (K K' : Ky) (U U' : Nat → Value) (B B' : Nat × Nat) : Prop where
  len : K.log.length ≤ K'.log.length
  look : ∀ n o p, n ≤ K.log.length → stale K'.log n o p = false → stale K.log n o p = false ∧ ∀ x' y', K'.cells[o]? = some (.c x') → x'.get p = some y' →
    ∃ x y, K.cells[o]? = some (.c x) ∧ x.get p = some y ∧ conc P w' x' (U' o) p = conc P w x (U o) p ∧ ∀ e es', y' = .ow e es' → ∃ es, y = .ow e es
  ptr : ∀ n, n ≤ K.log.length → gone K'.log n = false → gone K.log n = false ∧ (K'.sh = .box → K.sh = .box) ∧ B' = B
/-- Whatever is said anew, all looks into it are stale. -/
theorem Pres.anew {w w' : World} {K K' : Ky} {U U' : Nat → Value} {B B' : Nat × Nat} (h : K'.log = K.log ++ [none]) : Pres P w w' K K' U U' B B' := by
  refine ⟨by simp [h], fun n o p hn hs => ?_, fun n hn hg => ?_⟩
  · rw [h, stale, List.drop_append_of_le_length hn] at hs
    simp [hits] at hs
  · rw [h, gone, List.drop_append_of_le_length hn] at hg
    simp at hg
theorem SCRep.frame {σ : St} {U : Nat → Nat → Value} {B : Nat → Nat × Nat} {x : SC} {v : Value} {F : FP} {σ' : St} {U' : Nat → Nat → Value} {B' : Nat → Nat × Nat} (h : SCRep P w I σ U B x v F)
    (hs : Same w w' I F) (hI : ∀ b, I b → I' b) (hd : ∀ b, I' b → I b ∨ ¬ F b)
    (hp : ∀ k K, σ k = some K → ∃ K', σ' k = some K' ∧ Pres P w w' K K' (U k) (U' k) (B k) (B' k)) : SCRep P w' I' σ' U' B' x v F := by
  cases x with
  | c x => exact Rep.grow (Rep.frame h hs) hI hd
  | v e k o p n r =>
    obtain ⟨h1, K, h2, h3, h4⟩ := h
    obtain ⟨K', k1, k2⟩ := hp k K h2
    refine ⟨h1, K', k1, Nat.le_trans h3 k2.len, fun hst x0 y hx hy => ?_⟩
    obtain ⟨s1, s2⟩ := k2.look n o p h3 hst
    obtain ⟨x1, y1, a1, a2, a3, _⟩ := s2 x0 y hx hy
    obtain ⟨u, b1, b2⟩ := h4 s1 x1 y1 a1 a2
    exact ⟨u, a3.trans b1, b2⟩
  | pr k o n =>
    obtain ⟨h1, K, h2, h3, h4⟩ := h
    obtain ⟨K', k1, k2⟩ := hp k K h2
    refine ⟨h1, K', k1, Nat.le_trans h3 k2.len, fun hst hb => ?_⟩
    obtain ⟨s1, s2, s3⟩ := k2.ptr n h3 hst
    rw [s3]
    exact h4 s1 (s2 hb)
  | p e k o p n i j =>
    obtain ⟨h1, K, h2, h3, h4⟩ := h
    obtain ⟨K', k1, k2⟩ := hp k K h2
    refine ⟨h1, K', k1, Nat.le_trans h3 k2.len, fun hst x0 es hx hy => ?_⟩
    obtain ⟨s1, s2⟩ := k2.look n o p h3 hst
    obtain ⟨x1, y1, a1, a2, a3, a4⟩ := s2 x0 _ hx hy
    obtain ⟨es1, rfl⟩ := a4 _ _ rfl
    obtain ⟨g, m, c, b1, b2⟩ := h4 s1 x1 es1 a1 a2
    exact ⟨g, m, c, a3.trans b1, b2⟩
  | q row o =>
    obtain ⟨ad, h1, h2, h3⟩ := h
    refine ⟨ad, h1, hI _ h2, fun j x hx => ?_⟩
    obtain ⟨u, c1, c2⟩ := h3 j x hx
    refine ⟨u, ?_, Rep.grow (c2.frame (fun b hb => hs b (hb.imp id (fun hq => hq.elim)))) hI (fun b hb => .inr (fun hq => hq))⟩
    rw [cell_same]
    · exact c1
    · rw [add_block]; exact hs _ (.inl h2)
  | fn f ks =>
    obtain ⟨vs, h1, h2, h3⟩ := h
    refine ⟨vs, h1, h2, fun i k n hk => ?_⟩
    obtain ⟨a1, K, a2, a3, a4⟩ := h3 i k n hk
    obtain ⟨K', k1, k2⟩ := hp k K a2
    refine ⟨a1, K', k1, Nat.le_trans a3 k2.len, fun hst hb => ?_⟩
    obtain ⟨s1, s2, s3⟩ := k2.ptr n a3 hst
    rw [s3]
    exact a4 s1 (s2 hb)
theorem SCRep.mono {σ : St} {U : Nat → Nat → Value} {B : Nat → Nat × Nat} {x : SC} {v : Value} {F F' : FP} (h : SCRep P w I σ U B x v F) (hF : ∀ b, F b → F' b) : SCRep P w I σ U B x v F' := by
  cases x with
  | c x => exact Rep.mono h hF
  | v e k o p n r => exact h
  | pr k o n => exact h
  | p e k o p n i j => exact h
  | q row o => exact h
  | fn f ks => exact h
theorem SCRep.one {σ : St} {U : Nat → Nat → Value} {B : Nat → Nat × Nat} {x : SC} {v : Value} {F : FP} (h : SCRep P w I σ U B x v F) : One v := by
  cases x with
  | c x => exact Rep.one h
  | v e k o p n r => exact h.1
  | pr k o n => obtain ⟨⟨ad, rfl⟩, _⟩ := h; rfl
  | p e k o p n i j => obtain ⟨⟨ad, rfl⟩, _⟩ := h; rfl
  | q row o => obtain ⟨ad, rfl, _⟩ := h; rfl
  | fn f ks => obtain ⟨vs, rfl, _⟩ := h; rfl
theorem KR.frame {σ : St} {U : Nat → Nat → Value} {B : Nat → Nat × Nat} {t : Nat} {K : Ky} {v : Value} {F : FP} {σ' : St} {U' : Nat → Nat → Value} {B' : Nat → Nat × Nat} (h : KR P w I σ U B t K v F)
    (hs : Same w w' I F) (hI : ∀ b, I b → I' b) (hd : ∀ b, I' b → I b ∨ ¬ F b) (hU : U' t = U t) (hB : B' t = B t)
    (hp : ∀ k K, σ k = some K → ∃ K', σ' k = some K' ∧ Pres P w w' K K' (U k) (U' k) (B k) (B' k)) : KR P w' I' σ' U' B' t K v F := by
  obtain ⟨h1, ⟨N, h2, h3, h4⟩, h5⟩ := h
  refine ⟨?_, ⟨N, fun o x hx => ?_, h3, fun o b hn => by rw [hB]; exact h4 o b hn⟩, fun b hr => h5 b (by rw [← hB]; exact hr)⟩
  · rw [hU, hB]
    refine ⟨h1.1, ?_⟩
    have h1 := h1.2
    cases hK : K.sh with
    | one => simp only [hK] at h1 ⊢; exact h1
    | agg => simp only [hK] at h1 ⊢; exact h1
    | tup sig => simp only [hK] at h1 ⊢; exact h1
    | box =>
      simp only [hK] at h1 ⊢
      obtain ⟨a1, a2, cur, e, a3, a4⟩ := h1
      exact ⟨a1, a2, cur, e, (hs _ (.inr (h5 _ ⟨hK, rfl⟩))).trans a3, a4⟩
  · rw [hU]
    exact (h2 o x hx).frame (fun b hb => hs b (hb.imp id (fun hq => (h4 _ _ hq).1))) hI (fun b hb => (hd b hb).imp id (fun h hq => h (h4 _ _ hq).1)) hp
/-- A slot that a step leaves alone. -/
theorem RelW.same {cx : Cx} {U : Nat → Nat → Value} {B : Nat → Nat × Nat} {F : Nat → FP} {σ : St} {a : Act} (h : RelW cx I U B F σ a w) {k : Nat} {K : Ky} (hk : σ k = some K)
    (hw : ∀ b, F k b → w'.heap[b]? = w.heap[b]?) : Pres cx.P w w' K K (U k) (U k) (B k) (B k) := by
  obtain ⟨_, h1, ⟨N, h2, h3, h4⟩, h5⟩ := h.key k K hk
  refine ⟨Nat.le_refl _, fun n o p hn hs => ⟨hs, fun x' y' hx hy => ⟨x', y', hx, hy, ?_, fun e es he => ⟨es, he⟩⟩⟩, fun n hn hg => ⟨hg, id, rfl⟩⟩
  exact conc_same (h2 o _ hx) hy (fun b hq => hw b (h4 _ _ hq).1)
theorem RelW.step {cx : Cx} {U : Nat → Nat → Value} {B : Nat → Nat × Nat} {F : Nat → FP} {σ : St} {a : Act} (h : RelW cx I U B F σ a w) (M : Nat → Prop) {U' : Nat → Nat → Value} {B' : Nat → Nat × Nat} {F' : Nat → FP} {σ' : St} {a' : Act}
    (hsz : a'.tmps.size = cx.n) (hdf : a'.defers = []) (hσ : ∀ t, ¬ M t → σ' t = σ t) (ha : ∀ t, ¬ M t → a'.tmps.getD t undef = a.tmps.getD t undef)
    (hU : ∀ t, ¬ M t → U' t = U t ∧ B' t = B t ∧ F' t = F t) (hI : ∀ b, I b → I' b) (hIn : ∀ b, I' b → I b ∨ ((∀ t, ¬ M t → ¬ F t b) ∧ (cx.w0.heap.size ≤ b ∨ ∀ q, cx.F0 b q)))
    (hw : ∀ b, (I b ∨ ∃ t, ¬ M t ∧ F t b) → w'.heap[b]? = w.heap[b]?)
    (hnew : ∀ t K, M t → σ' t = some K → t < cx.n ∧ KR cx.P w' I' σ' U' B' t K (a'.tmps.getD t undef) (F' t))
    (hpres : ∀ t K, M t → σ t = some K → ∃ K', σ' t = some K' ∧ Pres cx.P w w' K K' (U t) (U' t) (B t) (B' t))
    (hdis : ∀ t t' b, F' t b → F' t' b → t = t') (hown : ∀ t b, F' t b → b < w'.heap.size ∧ ¬ I' b)
    (hmay : ∀ t b, M t → F' t b → cx.w0.heap.size ≤ b ∨ (∀ q, cx.F0 b q) ∨ ∃ K, σ' t = some K ∧ rootFP K (B' t) b ∧ ∀ q, (B' t).2 ≤ q → q < (B' t).2 + K.cells.length → cx.F0 b q)
    (hro : ∀ b, I' b → b < w'.heap.size) (hfr : Fr cx.w0 w' cx.F0) : RelW cx I' U' B' F' σ' a' w' := by
  have pres : ∀ k K, σ k = some K → ∃ K', σ' k = some K' ∧ Pres cx.P w w' K K' (U k) (U' k) (B k) (B' k) := by
    intro k K hk
    by_cases hm : M k
    · exact hpres k K hm hk
    · refine ⟨K, (hσ k hm).trans hk, ?_⟩
      rw [(hU k hm).1, (hU k hm).2.1]
      exact h.same hk (fun b hq => hw b (.inr ⟨k, hm, hq⟩))
  refine ⟨hsz, hdf, fun t K ht => ?_, hdis, hown, fun t b hb => ?_, hro, fun b hb => hI b (h.ro0 b hb), fun b hb => (hIn b hb).elim (h.roN b) (fun h1 => .inr h1.2), hfr⟩
  · by_cases hm : M t
    · exact hnew t K hm ht
    rw [hσ t hm] at ht
    obtain ⟨h1, h2⟩ := h.key t K ht
    obtain ⟨u1, u2, u3⟩ := hU t hm
    refine ⟨h1, ?_⟩
    rw [ha t hm, u3]
    exact h2.frame (fun b hb => hw b (hb.imp id (fun hq => ⟨t, hm, hq⟩))) hI (fun b hb => (hIn b hb).imp id (fun h => h.1 t hm)) u1 u2 pres
  · by_cases hm : M t
    · exact hmay t b hm hb
    · obtain ⟨u1, u2, u3⟩ := hU t hm
      rw [u3] at hb
      rw [u2, hσ t hm]
      exact h.may t b hb
end Go.Proofs.AI

namespace Go.Proofs.AI
open Go.RowKit
set_option linter.unusedVariables false
set_option linter.unusedSimpArgs false

def up (σ : St) (d : Nat) (K : Ky) : St := fun t => if t = d then some K else σ t
/-- A slot's log behind its being said anew. -/
def logAt (σ : St) (d : Nat) : Log := match σ d with
  | some K => K.log ++ [none]
  | none => []
theorem getD_put (a : Act) (d : Nat) (v : Value) (t : Nat) (h : d < a.tmps.size) : (a.put (some d) v).tmps.getD t undef = if t = d then v else a.tmps.getD t undef := by
  by_cases ht : t = d
  · subst ht
    simp [Act.put, h]
  · simp [Act.put, Array.getElem?_setIfInBounds, Ne.symm ht, ht]
theorem size_put (a : Act) (d : Option Nat) (v : Value) : (a.put d v).tmps.size = a.tmps.size := by
  cases d <;> simp [Act.put]
theorem defers_put (a : Act) (d : Option Nat) (v : Value) : (a.put d v).defers = a.defers := by
  cases d <;> rfl
/-- What is held besides the slots: the footprint of slot number n, which is none. -/
theorem RelW.put {cx : Cx} {I : Nat → Prop} {U : Nat → Nat → Value} {B : Nat → Nat × Nat} {F : Nat → FP} {σ : St} {a : Act} {w w' : World} (h : RelW cx I U B F σ a w)
    {d : Nat} (hd : d < cx.n) {sh : Sh} {cells : List SC} {v : Value} {us : Nat → Value} {bb : Nat × Nat}
    (hfr : Fr w w' (fun b _ => F cx.n b)) (hheap : ∀ b, b < w.heap.size → ¬ F cx.n b → w'.heap[b]? = w.heap[b]?)
    (hroot : RootAt w' ⟨sh, cells, logAt σ d⟩ v us bb)
    (hcells : ∃ N : Nat → FP, (∀ o x, cells[o]? = some x → SCRep cx.P w' I σ U B x (us o) (N o)) ∧ (∀ o o' b, N o b → N o' b → o = o') ∧
      (∀ o b, N o b → (F cx.n b ∨ (w.heap.size ≤ b ∧ b < w'.heap.size)) ∧ ¬ rootFP ⟨sh, cells, logAt σ d⟩ bb b))
    (hrf : ∀ b, rootFP ⟨sh, cells, logAt σ d⟩ bb b → w.heap.size ≤ b ∧ b < w'.heap.size) (hD : ∀ b, F cx.n b → cx.w0.heap.size ≤ b ∨ ∀ q, cx.F0 b q) :
    RelW cx I (fun t => if t = d then us else U t) (fun t => if t = d then bb else B t)
      (fun t => if t = d then (fun b => F cx.n b ∨ (w.heap.size ≤ b ∧ b < w'.heap.size)) else if t = cx.n then FP.none else F t) (up σ d ⟨sh, cells, logAt σ d⟩) (a.put (some d) v) w' := by
  have hdn : d ≠ cx.n := Nat.ne_of_lt hd
  have hsz : d < a.tmps.size := by rw [h.size]; exact hd
  have hold : ∀ b t, F t b → b < w.heap.size := fun b t hb => (h.own t b hb).1
  have hpd : ∀ K, σ d = some K → Pres cx.P w w' K ⟨sh, cells, logAt σ d⟩ (U d) us (B d) bb := fun K hK => Pres.anew (by simp [logAt, hK])
  have hpall : ∀ k K, σ k = some K → ∃ K', up σ d ⟨sh, cells, logAt σ d⟩ k = some K' ∧ Pres cx.P w w' K K' (U k) ((fun t => if t = d then us else U t) k) (B k) ((fun t => if t = d then bb else B t) k) := by
    intro k K hK
    by_cases hk : k = d
    · subst hk
      exact ⟨⟨sh, cells, logAt σ k⟩, by simp [up], by simpa using hpd K hK⟩
    · exact ⟨K, by simp [up, hk, hK], by simpa [hk] using h.same hK (fun b hq => hheap b (hold _ _ hq) (fun hn => Nat.ne_of_lt (h.key k K hK).1 (h.dis _ _ _ hq hn)))⟩
  refine h.step (fun t => t = d ∨ t = cx.n) (by rw [size_put]; exact h.size) (by rw [defers_put]; exact h.defers) (fun t ht => ?_) (fun t ht => ?_) (fun t ht => ?_) (fun b hb => hb) (fun b hb => .inl hb) (fun b hb => ?_) ?_ ?_ ?_ ?_ ?_ ?_ ?_
  · simp [up, (not_or.1 ht).1]
  · rw [getD_put _ _ _ _ hsz, if_neg (not_or.1 ht).1]
  · simp [(not_or.1 ht).1, (not_or.1 ht).2]
  · rcases hb with hb | ⟨t, ht, hb⟩
    · exact hheap b (h.ro b hb) (fun hn => (h.own _ _ hn).2 hb)
    · exact hheap b (hold _ _ hb) (fun hn => (not_or.1 ht).2 (h.dis _ _ _ hb hn))
  · intro t K ht hK
    by_cases htd : t = d
    · subst htd
      simp [up] at hK
      subst hK
      obtain ⟨N, n1, n2, n3⟩ := hcells
      refine ⟨hd, ?_⟩
      rw [getD_put _ _ _ _ hsz, if_pos rfl]
      refine ⟨by simpa using hroot, ⟨N, fun o x hx => ?_, n2, fun o b hn => ?_⟩, fun b hb => ?_⟩
      · simp only [if_true]
        -- the cells were read in the old slots: they read so in the new ones
        refine (n1 o x hx).frame (w' := w') (fun b _ => rfl) (fun b hb => hb) (fun b hb => .inl hb) (fun k K hK => ?_)
        by_cases hk : k = t
        · subst hk
          exact ⟨⟨sh, cells, logAt σ k⟩, by simp [up], by simpa using Pres.anew (by simp [logAt, hK])⟩
        · refine ⟨K, by simp [up, hk, hK], ?_⟩
          simp only [hk, if_false]
          exact ⟨Nat.le_refl _, fun n o p hn hs => ⟨hs, fun x' y' hx hy => ⟨x', y', hx, hy, rfl, fun e es he => ⟨es, he⟩⟩⟩, fun n hn hg => ⟨hg, id, rfl⟩⟩
      · simpa using n3 o b hn
      · simp only [if_true]
        exact .inr (hrf b (by simpa using hb))
    · rcases ht with ht | ht
      · exact absurd ht htd
      · subst ht
        simp [up, htd] at hK
        exact absurd (h.key _ K hK).1 (Nat.lt_irrefl _)
  · intro t K ht hK
    rcases ht with ht | ht
    · subst ht
      exact hpall t K hK
    · subst ht
      exact absurd (h.key _ K hK).1 (Nat.lt_irrefl _)
  · intro t t' b h1 h2
    by_cases e1 : t = d <;> by_cases e2 : t' = d
    · rw [e1, e2]
    · simp only [e1, if_true] at h1
      simp only [e2, if_false] at h2
      by_cases e3 : t' = cx.n
      · simp [e3, FP.none] at h2
      · simp only [e3, if_false] at h2
        rcases h1 with h1 | h1
        · exact absurd (h.dis _ _ _ h1 h2).symm e3
        · have := hold _ _ h2; omega
    · simp only [e2, if_true] at h2
      simp only [e1, if_false] at h1
      by_cases e3 : t = cx.n
      · simp [e3, FP.none] at h1
      · simp only [e3, if_false] at h1
        rcases h2 with h2 | h2
        · exact absurd (h.dis _ _ _ h2 h1).symm e3
        · have := hold _ _ h1; omega
    · simp only [e1, e2, if_false] at h1 h2
      by_cases e3 : t = cx.n
      · simp [e3, FP.none] at h1
      · by_cases e4 : t' = cx.n
        · simp [e4, FP.none] at h2
        · simp only [e3, e4, if_false] at h1 h2
          exact h.dis _ _ _ h1 h2
  · intro t b hb
    by_cases e1 : t = d
    · simp only [e1, if_true] at hb
      rcases hb with hb | hb
      · obtain ⟨o1, o2⟩ := h.own _ _ hb
        exact ⟨Nat.lt_of_lt_of_le o1 hfr.size, o2⟩
      · exact ⟨hb.2, fun hI => by have := h.ro b hI; omega⟩
    · simp only [e1, if_false] at hb
      by_cases e3 : t = cx.n
      · simp [e3, FP.none] at hb
      · simp only [e3, if_false] at hb
        obtain ⟨o1, o2⟩ := h.own _ _ hb
        exact ⟨Nat.lt_of_lt_of_le o1 hfr.size, o2⟩
  · intro t b ht hb
    rcases ht with rfl | rfl
    · simp only [if_true] at hb
      rcases hb with hb | hb
      · exact (hD b hb).imp id .inl
      · exact .inl (Nat.le_trans h.fr.size hb.1)
    · simp [Ne.symm hdn, FP.none] at hb
  · intro b hb
    exact Nat.lt_of_lt_of_le (h.ro b hb) hfr.size
  · exact h.fr.trans hfr (fun b q hb => (hD b hb).imp id (fun h => h q))

/-! ### Taking a tree out of a slot's cell -/
theorem get_take {P : Program} {w : World} {p : Way} : ∀ {p2 : Way} {x y' : CV} {u : Value}, (CV.put .any x p).get p2 = some y' →
    ∃ y, x.get p2 = some y ∧ conc P w (CV.put .any x p) u p2 = conc P w x u p2 ∧ ∀ e es', y' = .ow e es' → ∃ es, y = .ow e es := by
  induction p with
  | nil =>
    intro p2 x y' u h
    cases p2 with
    | nil =>
      simp [CV.put, CV.get] at h
      subst h
      exact ⟨x, by simp [CV.get], by simp [conc], fun e es' h => (by cases h)⟩
    | cons s r => simp [CV.put, CV.get] at h
  | cons s r ih =>
    obtain ⟨k, o⟩ := s
    intro p2 x y' u h
    cases x with
    | ow e es =>
      simp only [CV.put] at h ⊢
      cases hf : (es.f k)[o]? with
      | none =>
        simp only [hf] at h ⊢
        exact ⟨y', h, by simp, fun e es' he => ⟨es', he⟩⟩
      | some z =>
        simp only [hf] at h ⊢
        by_cases hkn : k < es.n
        case neg =>
          cases p2 with
          | nil =>
            simp [CV.get] at h
            subst h
            exact ⟨.ow e es, by simp [CV.get], by simp [conc], fun e' es' he => ⟨es, by cases he; rfl⟩⟩
          | cons s' r' =>
            obtain ⟨k', o'⟩ := s'
            simp only [CV.get, setF_out hkn] at h ⊢
            refine ⟨y', h, ?_, fun e es' he => ⟨es', he⟩⟩
            cases u with
            | slice A m c =>
              cases A with
              | none => simp [conc]
              | some ad =>
                obtain ⟨g, of, sp⟩ := ad
                cases of <;> cases sp <;> simp [conc, setF_out hkn]
            | _ => simp [conc]
        have hz := rowF' hf hkn
        cases p2 with
        | nil =>
          simp [CV.get] at h
          subst h
          exact ⟨.ow e es, by simp [CV.get], by simp [conc], fun e' es' he => ⟨es, by cases he; rfl⟩⟩
        | cons s' r' =>
          obtain ⟨k', o'⟩ := s'
          simp only [CV.get] at h ⊢
          by_cases hkk : k = k' ∧ o = o'
          · obtain ⟨rfl, rfl⟩ := hkk
            rw [setF_l, setRow_row hz] at h
            simp only [Option.bind_some] at h
            obtain ⟨y, h1, _, h3⟩ := ih (u := undef) h
            have h2 : ∀ u', conc P w (CV.put .any z r) u' r' = conc P w z u' r' := fun u' => by
              obtain ⟨_, _, b, _⟩ := ih (u := u') h
              exact b
            refine ⟨y, by simp [hz, h1], ?_, h3⟩
            cases u with
            | slice A m c =>
              cases A with
              | none => simp [conc]
              | some ad =>
                obtain ⟨g, of, sp⟩ := ad
                cases of <;> cases sp <;> simp [conc, setF_l, hz, setRow_row hz, h2]
            | _ => simp [conc]
          · rw [setF_l, setRow_far hkk] at h
            refine ⟨y', h, ?_, fun e es' he => ⟨es', he⟩⟩
            cases u with
            | slice A m c =>
              cases A with
              | none => simp [conc]
              | some ad =>
                obtain ⟨g, of, sp⟩ := ad
                cases of <;> cases sp <;> simp [conc, setF_l, setRow_far hkk]
            | _ => simp [conc]
    | _ => exact ⟨y', by simpa [CV.put] using h, by simp [CV.put], fun e es' he => ⟨es', he⟩⟩
theorem RelW.take {cx : Cx} {I : Nat → Prop} {U : Nat → Nat → Value} {B : Nat → Nat × Nat} {F : Nat → FP} {σ : St} {a : Act} {w : World} (h : RelW cx I U B F σ a w)
    {k o : Nat} {p : Way} {K : Ky} {x y : CV} (hk : σ k = some K) (hx : K.cells[o]? = some (.c x)) (hy : x.get p = some y) :
    ∃ v N, conc cx.P w x (U k o) p = some v ∧ Rep cx.P w I y v N ∧ (∀ b, N b → F k b ∧ (cx.w0.heap.size ≤ b ∨ ∀ q, cx.F0 b q)) ∧
      RelW cx I U B (fun t => if t = k then (fun b => F k b ∧ ¬ N b) else if t = cx.n then (fun b => F cx.n b ∨ N b) else F t)
        (up σ k ⟨K.sh, K.cells.set o (.c (CV.put .any x p)), K.log⟩) a w := by
  obtain ⟨hkn, hroot, ⟨N, n1, n2, n3⟩, hrf⟩ := h.key k K hk
  have hlt : o < K.cells.length := (List.getElem?_eq_some_iff.1 hx).1
  have hne : k ≠ cx.n := Nat.ne_of_lt hkn
  obtain ⟨v, F1, F2, t1, t2, t3, t4, t5, t6⟩ := Rep.take (n1 o _ hx) hy
  have hNF : ∀ b, F2 b → F k b := fun b hq => (n3 o b (t5 b hq)).1
  have hrF : ∀ b, rootFP K (B k) b → ¬ F2 b := fun b hr hq => (n3 o b (t5 b hq)).2 hr
  refine ⟨v, F2, t1, t2, fun b hb => ⟨hNF b hb, ?_⟩, ?_⟩
  · rcases h.may k b (hNF b hb) with h1 | h1 | ⟨K1, h1, h2, _⟩
    · exact .inl h1
    · exact .inr h1
    · rw [hk] at h1; cases h1; exact absurd hb (hrF b h2)
  have hcell : ∀ o' x', (K.cells.set o (.c (CV.put .any x p)))[o']? = some x' → (o' = o ∧ x' = .c (CV.put .any x p)) ∨ (o' ≠ o ∧ K.cells[o']? = some x') := by
    intro o' x' hx'
    rw [List.getElem?_set] at hx'
    by_cases ho : o = o'
    · subst ho
      simp [hlt] at hx'
      exact .inl ⟨rfl, hx'.symm⟩
    · simp [ho] at hx'
      exact .inr ⟨Ne.symm ho, hx'⟩
  have hpres : Pres cx.P w w K ⟨K.sh, K.cells.set o (.c (CV.put .any x p)), K.log⟩ (U k) (U k) (B k) (B k) := by
    refine ⟨Nat.le_refl _, fun n o' p' hn hs => ⟨hs, fun x' y' hx' hy' => ?_⟩, fun n hn hg => ⟨hg, id, rfl⟩⟩
    rcases hcell o' _ hx' with ⟨rfl, he⟩ | ⟨_, he⟩
    · cases he
      obtain ⟨y0, g1, g2, g3⟩ := get_take (P := cx.P) (w := w) (u := U k o') hy'
      exact ⟨x, y0, hx, g1, g2, g3⟩
    · exact ⟨x', y', he, hy', rfl, fun e es he => ⟨es, he⟩⟩
  have hpall : ∀ k' K', σ k' = some K' → ∃ K'', up σ k ⟨K.sh, K.cells.set o (.c (CV.put .any x p)), K.log⟩ k' = some K'' ∧ Pres cx.P w w K' K'' (U k') (U k') (B k') (B k') := by
    intro k' K' hK'
    by_cases he : k' = k
    · subst he
      rw [hk] at hK'
      cases hK'
      exact ⟨⟨K.sh, K.cells.set o (.c (CV.put .any x p)), K.log⟩, by simp [up], hpres⟩
    · exact ⟨K', by simp [up, he, hK'], h.same hK' (fun _ _ => rfl)⟩
  refine h.step (fun t => t = k ∨ t = cx.n) h.size h.defers (fun t ht => ?_) (fun t ht => rfl) (fun t ht => ?_) (fun b hb => hb) (fun b hb => .inl hb) (fun b hb => rfl) ?_ (fun t K' _ hK' => hpall t K' hK') ?_ ?_ ?_ h.ro h.fr
  · simp [up, (not_or.1 ht).1]
  · simp [(not_or.1 ht).1, (not_or.1 ht).2]
  · intro t K' ht hK'
    rcases ht with rfl | rfl
    · simp [up] at hK'
      subst hK'
      refine ⟨hkn, ⟨?_, ⟨fun o' => if o' = o then F1 else N o', fun o' x' hx' => ?_, fun o1 o2 b h1 h2 => ?_, fun o' b hb => ?_⟩, fun b hb => ?_⟩⟩
      · refine ⟨by simpa using hroot.1, ?_⟩
        have hr := hroot.2
        cases hs : K.sh with
        | one => simp only [hs] at hr ⊢; simpa using hr
        | agg => simp only [hs] at hr ⊢; simpa using hr
        | box => simp only [hs] at hr ⊢; simpa using hr
        | tup sig => simp only [hs] at hr ⊢; exact hr
      · rcases hcell o' _ hx' with ⟨rfl, he⟩ | ⟨hno, he⟩
        · subst he
          simp only [if_true]
          exact t3
        · simp only [hno, if_false]
          exact (n1 o' x' he).frame (fun _ _ => rfl) (fun _ h => h) (fun _ h => .inl h) hpall
      · have e1 : N o1 b := by
          by_cases he : o1 = o
          · simp [he] at h1; rw [he]; exact t4 _ h1
          · simpa [he] using h1
        have e2 : N o2 b := by
          by_cases he : o2 = o
          · simp [he] at h2; rw [he]; exact t4 _ h2
          · simpa [he] using h2
        exact n2 _ _ _ e1 e2
      · by_cases he : o' = o
        · simp [he] at hb
          simp only [if_true]
          have := n3 o b (t4 _ hb)
          exact ⟨⟨this.1, fun h2 => t6 _ hb h2⟩, by simpa [rootFP] using this.2⟩
        · simp [he] at hb
          simp only [if_true]
          have := n3 o' b hb
          exact ⟨⟨this.1, fun h2 => he (n2 _ _ _ hb (t5 _ h2))⟩, by simpa [rootFP] using this.2⟩
      · simp only [if_true]
        have hb' : rootFP K (B t) b := by simpa [rootFP] using hb
        exact ⟨hrf b hb', hrF b hb'⟩
    · simp [up, Ne.symm hne] at hK'
      exact absurd (h.key _ K' hK').1 (Nat.lt_irrefl _)
  · have key : ∀ t b, (if t = k then (fun b => F k b ∧ ¬ F2 b) else if t = cx.n then (fun b => F cx.n b ∨ F2 b) else F t) b → (F t b ∧ (t = k → ¬ F2 b)) ∨ (t = cx.n ∧ F2 b) := by
      intro t b hb
      by_cases e1 : t = k
      · simp only [e1, if_true] at hb; rw [e1]; exact .inl ⟨hb.1, fun _ => hb.2⟩
      · simp only [e1, if_false] at hb
        by_cases e2 : t = cx.n
        · simp only [e2, if_true] at hb; rw [e2]; exact hb.imp (fun h => ⟨h, fun e => absurd e.symm hne⟩) (fun h => ⟨rfl, h⟩)
        · simp only [e2, if_false] at hb; exact .inl ⟨hb, fun e => absurd e e1⟩
    intro t t' b h1 h2
    rcases key t b h1 with ⟨k1, k1'⟩ | ⟨e1, k1⟩ <;> rcases key t' b h2 with ⟨k2, k2'⟩ | ⟨e2, k2⟩
    · exact h.dis _ _ _ k1 k2
    · have := h.dis _ _ _ k1 (hNF b k2); exact absurd k2 (k1' this)
    · have := h.dis _ _ _ k2 (hNF b k1); exact absurd k1 (k2' this)
    · rw [e1, e2]
  · intro t b hb
    by_cases e1 : t = k
    · simp only [e1, if_true] at hb
      exact h.own _ _ hb.1
    · simp only [e1, if_false] at hb
      by_cases e2 : t = cx.n
      · simp only [e2, if_true] at hb
        rcases hb with hb | hb
        · exact h.own _ _ hb
        · exact h.own _ _ (hNF _ hb)
      · simp only [e2, if_false] at hb
        exact h.own _ _ hb
  · intro t b ht hb
    rcases ht with rfl | rfl
    · simp only [if_true] at hb
      rcases h.may t b hb.1 with h1 | h1 | ⟨K1, h1, h2, h3⟩
      · exact .inl h1
      · exact .inr (.inl h1)
      · rw [hk] at h1; cases h1
        exact .inr (.inr ⟨⟨K.sh, K.cells.set o (.c (CV.put .any x p)), K.log⟩, by simp [up], by simpa [rootFP] using h2, by simpa using h3⟩)
    · simp only [Ne.symm hne, if_false, if_true] at hb
      rcases hb with hb | hb
      · rcases h.may _ b hb with h1 | h1 | ⟨K1, h1, h2, h3⟩
        · exact .inl h1
        · exact .inr (.inl h1)
        · exact absurd (h.key _ K1 h1).1 (Nat.lt_irrefl _)
      · rcases h.may k b (hNF b hb) with h1 | h1 | ⟨K1, h1, h2, _⟩
        · exact .inl h1
        · exact .inr (.inl h1)
        · rw [hk] at h1; cases h1; exact absurd hb (hrF b h2)
end Go.Proofs.AI

namespace Go.Proofs.AI
open Go.RowKit
set_option linter.unusedVariables false
set_option linter.unusedSimpArgs false

/-- A closed value's cell. -/
def lit : Value → CV
  | .bool x => .b x
  | .int k x => .n k x
  | .string x => .s x
  | v => .vl v
theorem lit_rep {P : Program} {w : World} {I : Nat → Prop} {v : Value} (F : FP) (h : One v) : Rep P w I (lit v) v F := by
  cases v <;> first | exact .b | exact .n | exact .s | exact .vl h
/-- What a type is. -/
inductive TK where
  | bool
  | int (k : IntKind)
  | str
  | sl (e : TypeId)
  | st
  | oth
/-- Plain cells that '==' compares. -/
inductive CK where
  | b
  | n (k : IntKind)
structure TyI where
  k : TK
  size : Nat
  bytes : Nat
  fields : List (Nat × Nat × Bool)     -- a field's first cell, its size, whether it is a struct
  zero : List Value
  eq : List CK := []
  els : List (Option TypeId) := []   -- of a slice's cell: what its rows are
def eqC : Value → Value → Bool
  | .bool x, .bool y => x == y
  | .int _ x, .int _ y => x == y
  | _, _ => false
def isCK : CK → Value → Prop
  | .b, v => ∃ x, v = .bool x
  | .n k, v => ∃ x, v = .int k x
def eqL : List Value → List Value → Bool
  | [], [] => true
  | [x], [y] => eqC x y
  | x :: xs, y :: ys => eqC x y && eqL xs ys
  | _, _ => false
def areCK : List CK → List Value → Prop
  | [], [] => True
  | k :: ks, v :: vs => isCK k v ∧ areCK ks vs
  | _, _ => False
structure TyOk (P : Program) (t : TypeId) (i : TyI) : Prop where
  info : ∃ inf z, P.info? t = some inf ∧ inf.size = i.size ∧ inf.bytes = i.bytes ∧ inf.zero = some z ∧ z.cells.toList = i.zero ∧ (∀ v ∈ i.zero, One v) ∧ i.zero.length = i.size
  eqs : i.eq ≠ [] → ∀ (w : World) (xs ys : Array Value) (ex ey : Operand), areCK i.eq xs.toList → areCK i.eq ys.toList →
    (do eqGuard .eql t ex ey (.agg xs) (.agg ys); binOp .eql t (.agg xs) (.agg ys) : Sem Value).run P w = .ok (.bool (eqL xs.toList ys.toList)) w ∧
    (do eqGuard .neq t ex ey (.agg xs) (.agg ys); binOp .neq t (.agg xs) (.agg ys) : Sem Value).run P w = .ok (.bool (!eqL xs.toList ys.toList)) w
  desc : match i.k with
    | .bool => P.underlying t = some .bool
    | .int k => P.underlying t = some (.int k)
    | .str => P.underlying t = some .string
    | .oth => ∃ d, P.underlying t = some d ∧ d.isRow = false
    | .sl e => P.underlying t = some (.slice e)
    | .st => ∃ fs : Array Field, P.underlying t = some (.struct fs) ∧ fs.size = i.fields.length ∧
        ∀ (j : Nat) (f : Field), fs[j]? = some f → ∃ (s : Nat) (b : Bool), i.fields[j]? = some (f.offset, s, b) ∧ (∃ inf, P.info? f.type = some inf ∧ inf.size = s ∧ 0 < s) ∧
          (∃ d, P.underlying f.type = some d ∧ d.isRow = b)
theorem TyOk.cellsOf {P : Program} {t : TypeId} {i : TyI} (h : TyOk P t i) : P.cellsOf t = i.size := by
  obtain ⟨inf, z, h1, h2, _⟩ := h.info
  simp [Program.cellsOf, h1, h2]

/-! ### Steps -/
/-- A step whose slots' new state is told: good at every state that is alike on what it looks at. -/
def ups (σ : St) : List (Nat × Ky) → St
  | [] => σ
  | (d, K) :: r => ups (up σ d K) r
/-- One operation, at a state. -/
def Snd (P : Program) (σ : St) (o : Oper) (τ : St) : Prop := ∀ cx a w, cx.P = P → Rel cx σ a w → (∀ t, o.dst = some t → t < cx.n) → ∀ (K : Act → World → Prop) (Q : Exit → Act → World → Prop),
  (∀ a' w', Rel cx τ a' w' → K a' w') → o.wp P a w K Q

theorem Rep.plain {P : Program} {w : World} {I : Nat → Prop} {x : CV} {v : Value} {F F' : FP} (h : Rep P w I x v F) (hx : ∀ e es, x ≠ .ow e es) : Rep P w I x v F' := by
  cases h with
  | any h => exact .any h
  | b => exact .b
  | n => exact .n
  | s => exact .s
  | vl h => exact .vl h
  | sh us h1 h2 h3 h4 h5 => exact .sh us h1 h2 h3 h4 h5
  | ow us G h1 h2 h3 h4 h5 h6 h7 h8 h9 h10 h11 => exact absurd rfl (hx _ _)
  | ow0 => exact absurd rfl (hx _ _)
  | rp us h1 h2 h3 => exact .rp us h1 h2 h3
  | fn vs h1 h2 => exact .fn vs h1 h2
/-! ### Operands -/
theorem add_zero' (ad : Addr) : ad.add 0 = ad := by
  obtain ⟨b, i, p⟩ := ad
  unfold Addr.add
  cases p <;> simp
def look (t o n : Nat) : SC → SC
  | .c (.ow e _) => .v e t o [] n none
  | .c (.rp row) => .q row 0
  | x => x
def one1 (σ : St) : Operand → Option SC
  | .tmp t => match σ t with
    | some ⟨.one, [x], l⟩ => some (look t 0 l.length x)
    | some ⟨.box, _, l⟩ => some (.pr t 0 l.length)
    | _ => none
  | .const v => match v with
    | .agg _ => none
    | .tuple _ => none
    | v => some (.c (lit v))
  | .func f => some (.c (.vl (.func (.func f) #[] #[])))
  | .global _ => none
def agg1 (σ : St) : Operand → Option (List SC)
  | .tmp t => match σ t with
    | some ⟨.agg, xs, l⟩ => some (xs.mapIdx fun o x => look t o l.length x)
    | _ => none
  | .const (.agg cs) => if cs.all (·.oneCell') then some (cs.toList.map fun v => .c (lit v)) else none
  | _ => none
def tmps : Operand → List Nat
  | .tmp t => [t]
  | _ => []
section
variable {cx : Cx} {I : Nat → Prop} {U : Nat → Nat → Value} {B : Nat → Nat × Nat} {F : Nat → FP} {σ : St} {a : Act} {w : World}
theorem look_rep (h : RelW cx I U B F σ a w) {t : Nat} {K : Ky} (hK : σ t = some K) {o : Nat} {x : SC} (hx : K.cells[o]? = some x) : SCRep cx.P w I σ U B (look t o K.log.length x) (U t o) FP.none := by
  obtain ⟨_, hroot, ⟨N, n1, n2, n3⟩, _⟩ := h.key t K hK
  have hr := n1 o x hx
  cases x with
  | c y =>
    cases y with
    | ow e es =>
      refine ⟨SCRep.one hr, K, hK, Nat.le_refl _, fun _ x0 y0 h1 h2 => ?_⟩
      exact ⟨U t o, by simp [conc], rfl⟩
    | rp row =>
      generalize hu : U t o = u at hr
      generalize N o = G at hr
      cases hr with
      | rp us h1 h2 h3 =>
        rename_i ad
        refine ⟨ad, by simp [look, hu, add_zero'], h1, fun j x hx => ⟨_, h2 j (List.getElem?_eq_some_iff.1 hx).1, h3 j x hx⟩⟩
    | _ => exact Rep.plain hr (fun e es he => by cases he)
  | v e k o p n r => exact hr
  | pr k o n => exact hr
  | p e k o p n i j => exact hr
  | q row o => exact hr
  | fn f ks => exact hr
theorem one1_rep (h : RelW cx I U B F σ a w) {x : Operand} {s : SC} (hs : one1 σ x = some s) : SCRep cx.P w I σ U B s (a.eval x) FP.none := by
  cases x with
  | tmp t =>
    simp only [one1] at hs
    cases hK : σ t with
    | none => simp [hK] at hs
    | some K =>
      obtain ⟨sh, cells, l⟩ := K
      obtain ⟨_, hroot, _, _⟩ := h.key t _ hK
      have he : a.eval (.tmp t) = a.tmps.getD t undef := rfl
      cases sh with
      | one =>
        cases cells with
        | nil => simp [hK] at hs
        | cons x r =>
          cases r with
          | cons y r => simp [hK] at hs
          | nil =>
            simp [hK] at hs
            subst hs
            rw [he, hroot.2.2]
            exact look_rep h hK (by simp)
      | box =>
        simp [hK] at hs
        subst hs
        obtain ⟨_, _, hv, _⟩ := hroot
        refine ⟨⟨_, by rw [he, hv]⟩, _, hK, Nat.le_refl _, fun _ _ => ?_⟩
        rw [he, hv]
        simp
      | agg => simp [hK] at hs
      | tup sig => simp [hK] at hs
  | const v =>
    have : s = .c (lit v) ∧ One v := by cases v <;> simp_all [one1, One, Value.oneCell']
    rw [this.1]
    exact lit_rep _ this.2
  | func f => simp [one1] at hs; subst hs; exact Rep.vl rfl
  | global g => simp [one1] at hs
theorem agg1_rep (h : RelW cx I U B F σ a w) {x : Operand} {xs : List SC} (hs : agg1 σ x = some xs) :
    ∃ arr : Array Value, a.eval x = .agg arr ∧ arr.size = xs.length ∧ ∀ (o : Nat) s, xs[o]? = some s → ∃ u, arr[o]? = some u ∧ SCRep cx.P w I σ U B s u FP.none := by
  cases x with
  | tmp t =>
    simp only [agg1] at hs
    cases hK : σ t with
    | none => simp [hK] at hs
    | some K =>
      obtain ⟨sh, cells, l⟩ := K
      obtain ⟨_, hroot, _, _⟩ := h.key t _ hK
      have he : a.eval (.tmp t) = a.tmps.getD t undef := rfl
      cases sh with
      | agg =>
        simp [hK] at hs
        subst hs
        obtain ⟨_, arr, hv, h1, h2⟩ := hroot
        refine ⟨arr, he.trans hv, by simpa using h1, fun o s hs => ?_⟩
        rw [List.getElem?_mapIdx] at hs
        cases hc : cells[o]? with
        | none => simp [hc] at hs
        | some x =>
          simp [hc] at hs
          subst hs
          exact ⟨_, h2 o (List.getElem?_eq_some_iff.1 hc).1, look_rep h hK hc⟩
      | one => simp [hK] at hs
      | box => simp [hK] at hs
      | tup sig => simp [hK] at hs
  | const v =>
    cases v with
    | agg cs =>
      simp only [agg1] at hs
      split at hs
      · rename_i hall
        simp at hs
        subst hs
        refine ⟨cs, rfl, by simp, fun o s hs => ?_⟩
        simp at hs
        obtain ⟨v, h1, rfl⟩ := hs
        exact ⟨v, h1, lit_rep _ ((Array.all_eq_true_iff_forall_mem.1 hall) v (Array.mem_of_getElem? h1))⟩
      · cases hs
    | _ => simp [agg1] at hs
  | func f => simp [agg1] at hs
  | global g => simp [agg1] at hs
end
theorem held_none {cx : Cx} {I : Nat → Prop} {U : Nat → Nat → Value} {B : Nat → Nat × Nat} {F : Nat → FP} {σ : St} {a : Act} {w : World} (h : RelW cx I U B F σ a w) :
    RelW cx I U B (fun t => if t = cx.n then FP.none else F t) σ a w := by
  refine ⟨h.size, h.defers, fun t K hK => ?_, fun t t' b h1 h2 => ?_, fun t b hb => ?_, fun t b hb => ?_, h.ro, h.ro0, h.roN, h.fr⟩
  · have := h.key t K hK
    rw [if_neg (Nat.ne_of_lt this.1)]
    exact this
  · by_cases e1 : t = cx.n
    · simp [e1, FP.none] at h1
    · by_cases e2 : t' = cx.n
      · simp [e2, FP.none] at h2
      · simp only [e1, e2, if_false] at h1 h2; exact h.dis _ _ _ h1 h2
  · by_cases e1 : t = cx.n
    · simp [e1, FP.none] at hb
    · simp only [e1, if_false] at hb; exact h.own _ _ hb
  · by_cases e1 : t = cx.n
    · simp [e1, FP.none] at hb
    · simp only [e1, if_false] at hb; exact h.may _ _ hb
/-- An operation that yields a value of one cell, copied, and leaves the world. -/
theorem snd_one {P : Program} {σ : St} {o : Oper} {d : Nat} (hd : o.dst = some d) {x : SC}
    (h : ∀ cx I U B F a w, cx.P = P → RelW cx I U B F σ a w → ∃ v, (execOp a.eval o).run P w = .ok (.value v) w ∧ SCRep cx.P w I σ U B x v FP.none) :
    Snd P σ o (up σ d ⟨.one, [x], logAt σ d⟩) := by
  intro cx a w hP ⟨I, U, B, F, hr⟩ hdn K Q hK
  obtain ⟨v, h1, h2⟩ := h cx I U B F a w hP hr
  unfold Oper.wp
  rw [h1, Oper.upon_value, hd]
  refine hK _ _ ⟨I, _, _, _, (held_none hr).put (hdn d hd) (us := fun _ => v) (bb := (0, 0)) (Fr.refl _ _) (fun _ _ _ => rfl) ⟨fun _ _ => h2.one, by simp⟩
    ⟨fun _ => FP.none, fun o x hx => ?_, fun _ _ _ h => h.elim, fun _ _ h => h.elim⟩ (fun b hb => by simp [rootFP] at hb) (fun b hb => by simp [FP.none] at hb)⟩
  cases o with
  | zero => simp at hx; subst hx; exact h2
  | succ o => simp at hx
/-- A struct, copied. -/
theorem snd_agg {P : Program} {σ : St} {o : Oper} {d : Nat} (hd : o.dst = some d) {xs : List SC}
    (h : ∀ cx I U B F a w, cx.P = P → RelW cx I U B F σ a w → ∃ arr : Array Value, (execOp a.eval o).run P w = .ok (.value (.agg arr)) w ∧ arr.size = xs.length ∧ ∀ (o : Nat) s, xs[o]? = some s → ∃ u, arr[o]? = some u ∧ SCRep cx.P w I σ U B s u FP.none) :
    Snd P σ o (up σ d ⟨.agg, xs, logAt σ d⟩) := by
  intro cx a w hP ⟨I, U, B, F, hr⟩ hdn K Q hK
  obtain ⟨arr, h1, h2, h3⟩ := h cx I U B F a w hP hr
  unfold Oper.wp
  rw [h1, Oper.upon_value, hd]
  have hus : ∀ o, o < xs.length → arr[o]? = some (arr.getD o undef) := fun o ho => by
    rw [Array.getD_eq_getD_getElem?]
    rw [Array.getElem?_eq_getElem (by omega)]
    rfl
  have hrep : ∀ (o : Nat) s, xs[o]? = some s → SCRep cx.P w I σ U B s (arr.getD o undef) FP.none := fun o s hs => by
    obtain ⟨u, e1, e2⟩ := h3 o s hs
    have := hus o (List.getElem?_eq_some_iff.1 hs).1
    rw [e1] at this
    rw [← Option.some.inj this]
    exact e2
  refine hK _ _ ⟨I, _, _, _, (held_none hr).put (hdn d hd) (us := fun o => arr.getD o undef) (bb := (0, 0)) (Fr.refl _ _) (fun _ _ _ => rfl) ⟨fun o ho => ?_, arr, rfl, h2, hus⟩
    ⟨fun _ => FP.none, hrep, fun _ _ _ h => h.elim, fun _ _ h => h.elim⟩ (fun b hb => by simp [rootFP] at hb) (fun b hb => by simp [FP.none] at hb)⟩
  exact (hrep o _ (List.getElem?_eq_getElem ho)).one
end Go.Proofs.AI

namespace Go.Proofs.AI
open Go.RowKit
set_option linter.unusedVariables false
set_option linter.unusedSimpArgs false

abbrev Tab := TypeId → Option TyI
def TabOk (P : Program) (T : Tab) : Prop := ∀ t i, T t = some i → TyOk P t i
/-- What an operation that only reads yields: a cell or a struct; what it asks; what it looks at. -/
inductive Res where
  | one (x : SC)
  | agg (xs : List SC)
def ResRep (P : Program) (w : World) (I : Nat → Prop) (σ : St) (U : Nat → Nat → Value) (B : Nat → Nat × Nat) : Res → Value → Prop
  | .one x, v => SCRep P w I σ U B x v FP.none
  | .agg xs, v => ∃ arr : Array Value, v = .agg arr ∧ arr.size = xs.length ∧ ∀ (o : Nat) s, xs[o]? = some s → ∃ u, arr[o]? = some u ∧ SCRep P w I σ U B s u FP.none
structure Got where
  ob : Prop
  r : Res
  rd : List Nat
def arg1 (σ : St) (x : Operand) : Option Res := match one1 σ x with
  | some s => some (.one s)
  | none => (agg1 σ x).map .agg
def byteAt (s : ByteArray) (k : Nat) : Int := if h : k < s.size then ((s[k]'h).toNat : Int) else 0
/-- Two cells under an operator. -/
def bin (op : BinOp) : CV → CV → Option (Prop × CV)
  | .n k x, .n k' y => if k = k' then match op with
      | .add => some (True, .n k (k.wrap (x + y)))
      | .sub => some (True, .n k (k.wrap (x - y)))
      | .mul => some (True, .n k (k.wrap (x * y)))
      | .quo => some (y ≠ 0, .n k (k.wrap (x.tdiv y)))
      | .rem => some (y ≠ 0, .n k (x.tmod y))
      | .eql => some (True, .b (x == y))
      | .xor => some (True, .n k (k.wrap (BitVec.ofInt k.bits x ^^^ BitVec.ofInt k.bits y).toNat))
      | .shr => some (0 ≤ y, .n k (x.fdiv (2 ^ min y.toNat k.bits)))
      | .neq => some (True, .b (x != y))
      | .lss => some (True, .b (decide (x < y)))
      | .leq => some (True, .b (decide (x ≤ y)))
      | .gtr => some (True, .b (decide (x > y)))
      | .geq => some (True, .b (decide (x ≥ y)))
      | _ => none
    else none
  | .s x, .s y => match op with
      | .add => some (x.size + y.size ≤ 9223372036854775807, .s (x ++ y))
      | .eql => some (True, .b (x.toList == y.toList))
      | .neq => some (True, .b (!(x.toList == y.toList)))
      | .lss => some (True, .b (Op.bytesLess x.toList y.toList))
      | .leq => some (True, .b (Op.bytesLess x.toList y.toList || x.toList == y.toList))
      | .gtr => some (True, .b (!(Op.bytesLess x.toList y.toList || x.toList == y.toList)))
      | .geq => some (True, .b (!Op.bytesLess x.toList y.toList))
      | _ => none
  | _, _ => none
theorem bin_run {P : Program} {w : World} {I : Nat → Prop} {op : BinOp} {t : TypeId} {x y z : CV} {u v : Value} {F F' : FP} {ob : Prop} (ex ey : Operand) (hb : bin op x y = some (ob, z)) (ho : ob) (hx : Rep P w I x u F) (hy : Rep P w I y v F') :
    ∃ r, (do eqGuard op t ex ey u v; binOp op t u v : Sem Value).run P w = .ok r w ∧ Rep P w I z r FP.none := by
  cases hx <;> try (simp [bin] at hb; done)
  · cases hy <;> try (simp [bin] at hb; done)
    rename_i k x k' y
    simp only [bin] at hb
    split at hb
    · rename_i hk
      subst hk
      cases op <;> simp only [reduceCtorEq] at hb <;> injection hb with hb <;> injection hb with h1 h2 <;> subst h1 h2
      all_goals simp [eqGuard, binOp, Op.intArith, Op.intCmp, Op.intDiv, Op.intBits, Op.shift]
      all_goals first | exact .n | exact .b | (simp [ho]; exact .n) | (simp [show ¬ y < 0 by omega]; exact .n)
    · cases hb
  · cases hy <;> try (simp [bin] at hb; done)
    rename_i x y
    cases op <;> simp only [bin, reduceCtorEq] at hb <;> injection hb with hb <;> injection hb with h1 h2 <;> subst h1 h2
    all_goals simp [eqGuard, binOp, Op.stringOp, IntKind.max]
    all_goals first | exact .b | exact ⟨_, if_neg (by simp [IntKind.signed, IntKind.bits]; omega), .s⟩

/-! ### Slices that are looked at -/
/-- The rows behind a slice's cell, and what was looked at. -/
def rowsAt (σ : St) : SC → Option (TypeId × Rows CV)
  | .c (.sh e es) => some (e, es)
  | .v e k o p n none => match σ k with
    | some K => if stale K.log n o p then none else match K.cells[o]? with
      | some (.c x) => match x.get p with
        | some (.ow e' es) => if e = e' then some (e, es) else none
        | _ => none
      | _ => none
    | none => none
  | _ => none
def cutR {C : Type} (es : Rows C) (lo hi : Nat) : Rows C := ⟨hi - lo, fun k => es.f (lo + k)⟩
def cutRows (es : Rows CV) : Option (Nat × Nat) → Rows CV
  | none => es
  | some (lo, hi) => cutR es lo hi
theorem cutR_at {C : Type} (es : Rows C) {lo hi : Nat} (h : hi ≤ es.n) (k : Nat) : (cutR es lo hi).l[k]? = if lo + k < hi then es.l[lo + k]? else none := by
  rw [Rows.l_at, Rows.l_at]
  simp only [cutR]
  by_cases h1 : lo + k < hi
  · simp only [h1, if_true, show k < hi - lo from by omega, show lo + k < es.n from by omega]
  · simp only [h1, if_false, show ¬ k < hi - lo from by omega]
theorem cutR_l {C : Type} (es : Rows C) {lo hi : Nat} (h : hi ≤ es.n) : (cutR es lo hi).l = (es.l.take hi).drop lo := by
  apply List.ext_getElem?
  intro k
  rw [cutR_at es h, List.getElem?_drop, List.getElem?_take]
def appR {C : Type} (a b : Rows C) : Rows C := ⟨a.n + b.n, fun k => if k < a.n then a.f k else b.f (k - a.n)⟩
theorem appR_l {C : Type} (a b : Rows C) : (appR a b).l = a.l ++ b.l := by
  apply List.ext_getElem?
  intro k
  rw [Rows.l_at]
  by_cases h : k < a.n
  · rw [List.getElem?_append_left (by simpa using h), Rows.l_at]
    simp only [appR, h, if_true, show k < a.n + b.n from by omega]
  · rw [List.getElem?_append_right (by simpa using h), Rows.l_at, Rows.l_length]
    by_cases h2 : k < a.n + b.n
    · simp only [appR, h, if_false, h2, if_true, show k - a.n < b.n from by omega]
    · simp only [appR, h2, if_false, show ¬ k - a.n < b.n from by omega]
def nilR {C : Type} : Rows C := ⟨0, fun _ => []⟩
@[simp] theorem nilR_l {C : Type} : (nilR : Rows C).l = [] := rfl
def mapR (g : CV → CV) (r : Rows CV) : Rows CV := ⟨r.n, fun k => (r.f k).map g⟩
theorem mapR_l (g : CV → CV) (r : Rows CV) : (mapR g r).l = r.l.map (·.map g) := by
  unfold Rows.l mapR; simp [List.map_map, Function.comp_def]
theorem Rows.n_eq {C : Type} {r r' : Rows C} (h : r.l = r'.l) : r.n = r'.n := by rw [← r.l_length, h, r'.l_length]
theorem Rows.l_nil {C : Type} {r : Rows C} (h : r.n = 0) : r.l = [] := by simp [Rows.l, h]
theorem Rows.n_nil {C : Type} {r : Rows C} (h : r.l = []) : r.n = 0 := by rw [← r.l_length, h]; rfl
def keysOf : SC → List Nat
  | .v _ k _ _ _ _ => [k]
  | .pr k _ _ => [k]
  | .p _ k _ _ _ _ _ => [k]
  | .fn _ ks => ks.map (·.1)
  | _ => []
section
variable {cx : Cx} {I : Nat → Prop} {U : Nat → Nat → Value} {B : Nat → Nat × Nat} {F : Nat → FP} {σ : St} {a : Act} {w : World}
/-- What stands where a look into a slot leads. -/
theorem way_at (h : RelW cx I U B F σ a w) {k o : Nat} {p : Way} {K : Ky} {x y : CV} (hk : σ k = some K) (hx : K.cells[o]? = some (.c x)) (hy : x.get p = some y) :
    ∃ u G, conc cx.P w x (U k o) p = some u ∧ Rep cx.P w I y u G ∧ ∀ b, G b → F k b := by
  obtain ⟨_, _, ⟨N, n1, _, n3⟩, _⟩ := h.key k K hk
  obtain ⟨v, G, h1, h2, h3⟩ := Rep.at_ (n1 o _ hx) hy
  exact ⟨v, G, h1, h2, fun b hb => (n3 o b (h3 b hb)).1⟩
theorem rowsAt_none {e : TypeId} {k o n : Nat} {p : Way} {es : Rows CV} {e' : TypeId} (hr : rowsAt σ (.v e k o p n none) = some (e', es)) :
    e' = e ∧ ∃ K x, σ k = some K ∧ stale K.log n o p = false ∧ K.cells[o]? = some (.c x) ∧ x.get p = some (.ow e es) := by
  simp only [rowsAt] at hr
  split at hr
  · rename_i K hK
    split at hr
    · cases hr
    · rename_i hs
      split at hr
      · rename_i x hx
        split at hr
        · rename_i e1 es1 hg
          split at hr
          · rename_i he
            subst he
            injection hr with hr
            injection hr with h1 h2
            subst h1 h2
            exact ⟨rfl, K, x, hK, by simpa using hs, hx, hg⟩
          · cases hr
        · cases hr
      · cases hr
  · cases hr
/-- A slice that reads as rows. -/
theorem rowsAt_len (h : RelW cx I U B F σ a w) {s : SC} {v : Value} {e : TypeId} {es : Rows CV} (hs : SCRep cx.P w I σ U B s v FP.none) (hr : rowsAt σ s = some (e, es)) :
    ∃ A c, v = .slice A es.n c ∧ es.n ≤ c ∧ es.n ≤ 9223372036854775807 ∧ (∀ (k : Nat) (row : List CV), es.l[k]? = some row → row.length = cx.P.cellsOf e) := by
  cases s with
  | c x =>
    cases x <;> simp [rowsAt] at hr
    obtain ⟨rfl, rfl⟩ := hr
    generalize hF : FP.none = F0 at hs
    cases hs with | sh us h1 h2 h3 h4 h5 => exact ⟨_, _, rfl, h1, h2, h4⟩
  | v e0 k o p n r =>
    cases r with
    | some r => simp [rowsAt] at hr
    | none =>
      obtain ⟨rfl, K, x, hK, hst, hx, hg⟩ := rowsAt_none hr
      obtain ⟨_, K', hK', _, hv⟩ := hs
      rw [hK] at hK'
      cases hK'
      obtain ⟨u, G, c1, c2, _⟩ := way_at h hK hx hg
      obtain ⟨u', d1, d2⟩ := hv hst x _ hx hg
      rw [c1] at d1
      cases d1
      simp only [sub] at d2
      subst d2
      cases c2 with
      | ow us G h1 h2 h3 h4 h5 h6 h7 h8 h9 h10 h11 => exact ⟨_, _, rfl, h3, by simp only [maxLen] at h4; omega, h7⟩
      | ow0 h0 => exact ⟨none, 0, by rw [h0], by omega, by omega, fun k row hk => absurd (Rows.l_lt hk).1 (by omega)⟩
  | pr k o n => simp [rowsAt] at hr
  | p e k o p n i j => simp [rowsAt] at hr
  | q row o => simp [rowsAt] at hr
  | fn f ks => simp [rowsAt] at hr
end
theorem sizeOf_run {P : Program} {t : TypeId} {i : TyI} (h : TyOk P t i) (w : World) : (sizeOf t).run P w = .ok i.size w := by
  obtain ⟨inf, z, h1, h2, _⟩ := h.info
  simp [sizeOf, typeInfo, h1, h2]
theorem add_add (ad : Addr) (m n : Nat) : (ad.add m).add n = ad.add (m + n) := by
  unfold Addr.add
  by_cases hm : m = 0
  · subst hm; simp
  · by_cases hn : n = 0
    · subst hn; simp [hm]
    · simp [hm, hn, Nat.add_assoc]
theorem add_plain (g j m : Nat) : (⟨g, m, none⟩ : Addr).add j = ⟨g, m + j, none⟩ := Addr.add_mid g m j
/-- An element's address. -/
def vIndex (T : Tab) (σ : St) (t : TypeId) (s : SC) : CV → Option (Prop × SC)
  | .n _ ix => match T t with
    | some ⟨.sl e, _, _, _, _, _, _⟩ => match T e with
      | some _ => match s with
        | .c (.sh e' es) => if e = e' then some (0 ≤ ix ∧ ix < es.n, .q (es.f ix.toNat) 0) else none
        | .v e' k o p n none => match rowsAt σ (.v e' k o p n none) with
          | some (_, es) => if e = e' then some (0 ≤ ix ∧ ix < es.n, .p e k o p n ix.toNat 0) else none
          | none => none
        | _ => none
      | none => none
    | _ => none
  | _ => none
theorem vIndex_ok {cx : Cx} {I : Nat → Prop} {U : Nat → Nat → Value} {B : Nat → Nat × Nat} {F : Nat → FP} {σ : St} {a : Act} {w : World} (h : RelW cx I U B F σ a w) {T : Tab} (hT : TabOk cx.P T)
    {t : TypeId} {s z : SC} {y : CV} {ob : Prop} {v u : Value} {F' : FP} (hv : vIndex T σ t s y = some (ob, z)) (ho : ob) (hs : SCRep cx.P w I σ U B s v FP.none) (hy : Rep cx.P w I y u F') :
    ∃ r, (Instr.indexAt t v u).run cx.P w = .ok r w ∧ SCRep cx.P w I σ U B z r FP.none := by
  cases hy <;> try (simp [vIndex] at hv; done)
  rename_i k ix
  simp only [vIndex] at hv
  split at hv
  · rename_i e sz by_ fl zr eq_ els_ hTt
    have hd := (hT t _ hTt).desc
    simp only at hd
    split at hv
    · rename_i ie hTe
      have hsz := sizeOf_run (hT e ie hTe) w
      have hcs := (hT e ie hTe).cellsOf
      split at hv
      · rename_i e' es
        split at hv
        · rename_i he
          subst he
          injection hv with hv
          injection hv with h1 h2
          subst h1 h2
          generalize hF : FP.none = F0 at hs
          cases hs with
          | sh us g1 g2 g3 g4 g5 =>
            obtain ⟨ad, e1, e2, e3⟩ := g3 (by omega)
            subst e1
            have hlt : ix.toNat < es.n := by omega
            refine ⟨.pointer (some (ad.add (ix.toNat * ie.size))), by simp [Instr.indexAt, run_underlying hd, asIntOf, ho, hsz], ad.add (ix.toNat * ie.size), by simp [Addr.add], by rw [add_block]; exact e2, fun j x hx => ?_⟩
            have hrow := es.l_eq hlt
            refine ⟨us ix.toNat j, ?_, g5 _ _ j x hrow hx⟩
            rw [add_add, ← hcs]
            exact e3 _ _ hrow j (List.getElem?_eq_some_iff.1 hx).1
        · cases hv
      · rename_i e' k o p n
        split at hv
        · rename_i e1 es hr
          split at hv
          · rename_i he
            subst he
            injection hv with hv
            injection hv with h1 h2
            subst h1 h2
            obtain ⟨rfl, K, x, hK, hst, hx, hg⟩ := rowsAt_none hr
            obtain ⟨_, K', hK', hn, hvv⟩ := hs
            rw [hK] at hK'
            cases hK'
            obtain ⟨u, G, c1, c2, _⟩ := way_at h hK hx hg
            obtain ⟨u', d1, d2⟩ := hvv hst x _ hx hg
            rw [c1] at d1
            cases d1
            simp only [sub] at d2
            subst d2
            rcases c2.ow_inv with ⟨_, hz0⟩ | ⟨g, cap, cur, us, G, rfl, _⟩
            · have h0 := ho.1; have h1 := ho.2; omega
            · refine ⟨.pointer (some ((⟨g, 0, none⟩ : Addr).add (ix.toNat * ie.size))), by simp [Instr.indexAt, run_underlying hd, asIntOf, ho, hsz], ⟨_, rfl⟩, K, hK, hn, fun _ x0 es0 hx0 hg0 => ?_⟩
              rw [hx] at hx0
              cases hx0
              rw [hg] at hg0
              cases hg0
              refine ⟨g, _, _, c1, ?_⟩
              rw [add_plain, hcs]
              simp
          · cases hv
        · cases hv
      · cases hv
    · cases hv
  · cases hv
end Go.Proofs.AI

namespace Go.Proofs.AI
open Go.RowKit
set_option linter.unusedVariables false
set_option linter.unusedSimpArgs false

section
variable {cx : Cx} {I : Nat → Prop} {U : Nat → Nat → Value} {B : Nat → Nat × Nat} {F : Nat → FP} {σ : St} {a : Act} {w : World}
theorem get_append {p q : Way} : ∀ {x y : CV}, x.get p = some y → x.get (p ++ q) = y.get q := by
  induction p with
  | nil => intro x y h; simp [CV.get] at h; subst h; rfl
  | cons s r ih =>
    obtain ⟨k, o⟩ := s
    intro x y h
    cases x with
    | ow e es =>
      simp only [CV.get] at h
      obtain ⟨z, h1, h2⟩ := Option.bind_eq_some_iff.1 h
      simp only [List.cons_append, CV.get, h1, Option.bind_some]
      exact ih h2
    | _ => simp [CV.get] at h
theorem conc_append {P : Program} {p q : Way} : ∀ {x y : CV} {u v : Value}, x.get p = some y → conc P w x u p = some v → conc P w x u (p ++ q) = conc P w y v q := by
  induction p with
  | nil => intro x y u v h hc; simp [CV.get] at h; simp [conc] at hc; subst h hc; rfl
  | cons s r ih =>
    obtain ⟨k, o⟩ := s
    intro x y u v h hc
    cases x with
    | ow e es =>
      simp only [CV.get] at h
      obtain ⟨z, h1, h2⟩ := Option.bind_eq_some_iff.1 h
      cases u with
      | slice A m c =>
        cases A with
        | none => simp [conc] at hc
        | some ad =>
          obtain ⟨g, of, sp⟩ := ad
          cases of with
          | succ of => simp [conc] at hc
          | zero =>
            cases sp with
            | some sp => simp [conc] at hc
            | none =>
              simp only [conc, h1, Option.bind_some] at hc
              obtain ⟨u', h3, h4⟩ := Option.bind_eq_some_iff.1 hc
              simp only [List.cons_append, conc, h1, Option.bind_some, h3]
              exact ih h2 h4
      | _ => simp [conc] at hc
    | _ => simp [CV.get] at h
/-- A cell of an element of a slice of one's own. -/
def lookIn (k o : Nat) (p : Way) (n i j : Nat) : CV → SC
  | .ow e _ => .v e k o (p ++ [(i, j)]) n none
  | x => .c x
theorem lookIn_rep (h : RelW cx I U B F σ a w) {k o : Nat} {p : Way} {K : Ky} {x : CV} {e : TypeId} {es : Rows CV} {g m c i j : Nat} (hk : σ k = some K) (hx : K.cells[o]? = some (.c x)) (hy : x.get p = some (.ow e es))
    (hc : conc cx.P w x (U k o) p = some (.slice (some ⟨g, 0, none⟩) m c)) {y : CV} (hr : row? es.l i j = some y) :
    ∃ u, w.cell? ⟨g, i * cx.P.cellsOf e + j, none⟩ = some u ∧ SCRep cx.P w I σ U B (lookIn k o p K.log.length i j y) u FP.none := by
  obtain ⟨u, G, c1, c2, c3⟩ := way_at h hk hx (p := p ++ [(i, j)]) (y := y) (by rw [get_append hy]; simp [CV.get, hr])
  have c1' := c1
  rw [conc_append hy hc] at c1
  simp only [conc, hr, Option.bind_some] at c1
  obtain ⟨u', d1, d2⟩ := Option.bind_eq_some_iff.1 c1
  obtain rfl : u' = u := by cases y <;> simpa [conc] using d2
  refine ⟨u', d1, ?_⟩
  cases y with
  | ow e' es' =>
    refine ⟨c2.one, K, hk, Nat.le_refl _, fun _ x0 y0 hx0 hy0 => ?_⟩
    rw [hx] at hx0
    cases hx0
    exact ⟨u', c1', rfl⟩
  | _ => exact Rep.plain c2 (fun e es he => by cases he)
theorem row_getD {es : Rows CV} {r q : Nat} (hr : r < es.n) (hq : q < (es.f r).length) : row? es.l r q = some ((es.f r).getD q .any) := by
  exact row_mk (es.l_eq hr) (by rw [List.getD_eq_getElem?_getD, List.getElem?_eq_getElem hq]; rfl)
def mapC (xs : List CV) : List SC := xs.map SC.c
/-- What a load yields. -/
def vLoad (T : Tab) (σ : St) (t : TypeId) (s : SC) : Option (Prop × Res) :=
  match T t with
  | some i => match s with
    | .q row o => match i.k with
      | .st => if o + i.size ≤ row.length then some (True, .agg (mapC ((row.drop o).take i.size))) else none
      | _ => if i.size = 1 then match row[o]? with
        | some x => some (True, .one (.c x))
        | none => none
        else none
    | .pr k o n => match σ k with
      | some ⟨.box, cells, l⟩ => if gone l n then none else match i.k with
        | .st => if o + i.size ≤ cells.length then some (True, .agg ((cells.drop o).take i.size |>.mapIdx fun j x => look k (o + j) l.length x)) else none
        | _ => if i.size = 1 then match cells[o]? with
          | some x => some (True, .one (look k o l.length x))
          | none => none
          else none
      | _ => none
    | .p e k o p n r j => match σ k with
      | some K => if stale K.log n o p then none else match K.cells[o]? with
        | some (.c x) => match x.get p with
          | some (.ow e' es) => if e = e' then match i.k with
            | .st => if j + i.size ≤ (es.f r).length then some (r < es.n, .agg (((es.f r).drop j).take i.size |>.mapIdx fun m x => lookIn k o p K.log.length r (j + m) x)) else none
            | _ => if i.size = 1 then match (es.f r)[j]? with
              | some y => some (r < es.n, .one (lookIn k o p K.log.length r j y))
              | none => none
              else none
            else none
          | _ => none
        | _ => none
      | none => none
    | _ => none
  | none => none
theorem load_one {P : Program} {T : Tab} (hT : TabOk P T) {t : TypeId} {i : TyI} (hi : T t = some i) (hk : ∀ x, i.k = x → x ≠ .st) {ad : Addr} {u : Value} (hc : w.cell? ad = some u) :
    (Instr.loadAt t (.pointer (some ad))).run P w = .ok u w := by
  have hd := (hT t i hi).desc
  have hagg : (isAgg t).run P w = .ok false w := by
    unfold isAgg
    rw [Sem.run_bind]
    cases hik : i.k with
    | st => exact absurd rfl (hk _ hik)
    | bool => simp only [hik] at hd; rw [run_underlying hd]; simp
    | int k => simp only [hik] at hd; rw [run_underlying hd]; simp
    | str => simp only [hik] at hd; rw [run_underlying hd]; simp
    | sl e => simp only [hik] at hd; rw [run_underlying hd]; simp
    | oth =>
      simp only [hik] at hd
      obtain ⟨d, h1, h2⟩ := hd
      rw [run_underlying h1]
      cases d <;> simp_all [TypeDesc.isRow]
  simp [Instr.loadAt, Instr.sureAddr, loadVar, hagg, load, Sem.run, hc]
theorem load_agg {P : Program} {T : Tab} (hT : TabOk P T) {t : TypeId} {i : TyI} (hi : T t = some i) (hk : i.k = .st) {ad : Addr} (f : Nat → Value) (hc : ∀ j, j < i.size → w.cell? (ad.add j) = some (f j)) :
    (Instr.loadAt t (.pointer (some ad))).run P w = .ok (.agg ((List.range i.size).map f).toArray) w := by
  have hd := (hT t i hi).desc
  simp only [hk] at hd
  obtain ⟨fs, h1, _⟩ := hd
  have hagg : (isAgg t).run P w = .ok true w := by
    unfold isAgg
    rw [Sem.run_bind, run_underlying h1]
    simp
  simp [Instr.loadAt, Instr.sureAddr, loadVar, hagg, sizeOf_run (hT t i hi), run_loadCells w ad i.size f hc]
theorem agg_rep {xs : List SC} {f : Nat → Value} {m : Nat} (hm : xs.length = m) (hx : ∀ j s, xs[j]? = some s → SCRep cx.P w I σ U B s (f j) FP.none) :
    ResRep cx.P w I σ U B (.agg xs) (.agg ((List.range m).map f).toArray) := by
  refine ⟨_, rfl, by simp [hm], fun j s hs => ⟨f j, ?_, hx j s hs⟩⟩
  have hj : j < m := hm ▸ (List.getElem?_eq_some_iff.1 hs).1
  simp [hj]
theorem vLoad_ok (h : RelW cx I U B F σ a w) {T : Tab} (hT : TabOk cx.P T) {t : TypeId} {s : SC} {z : Res} {ob : Prop} {v : Value} (hv : vLoad T σ t s = some (ob, z)) (ho : ob) (hs : SCRep cx.P w I σ U B s v FP.none) :
    ∃ r, (Instr.loadAt t v).run cx.P w = .ok r w ∧ ResRep cx.P w I σ U B z r := by
  simp only [vLoad] at hv
  split at hv
  · rename_i i hi
    split at hv
    · -- a row that is read only
      rename_i row o
      obtain ⟨ad, rfl, e2, e3⟩ := hs
      split at hv
      · rename_i hk
        split at hv
        rotate_left
        · cases hv
        rename_i ho
        injection hv with hv; injection hv with h1 h2; subst h1 h2
        have hcell : ∀ j, j < i.size → ∃ x u, row[o + j]? = some x ∧ w.cell? ((ad.add o).add j) = some u ∧ Rep cx.P w I x u FP.none := fun j hj => by
          obtain ⟨u, c1, c2⟩ := e3 (o + j) _ (List.getElem?_eq_getElem (by omega))
          exact ⟨_, u, List.getElem?_eq_getElem (by omega), by rw [add_add]; exact c1, c2⟩
        refine ⟨_, load_agg hT hi hk (fun j => (w.cell? ((ad.add o).add j)).getD undef) (fun j hj => by obtain ⟨x, u, _, c, _⟩ := hcell j hj; simp [c]), agg_rep (by simp [mapC]; omega) (fun j s hs => ?_)⟩
        simp only [mapC, List.getElem?_map, List.getElem?_take, List.getElem?_drop] at hs
        obtain ⟨y, h1, rfl⟩ := Option.map_eq_some_iff.1 hs
        split at h1
        · rename_i hj
          obtain ⟨x, u, c0, c1, c2⟩ := hcell j hj
          rw [c0] at h1; cases h1
          simp [c1]
          exact c2
        · cases h1
      · split at hv
        · rename_i hk _
          split at hv
          rotate_left
          · cases hv
          rename_i x hx
          injection hv with hv; injection hv with h1 h2; subst h1 h2
          obtain ⟨u, c1, c2⟩ := e3 o _ hx
          exact ⟨u, load_one hT hi (fun x hx he => hk (hx.trans he)) c1, c2⟩
        · cases hv
    · -- a box
      rename_i k o n
      split at hv
      · rename_i cells l hK
        split at hv
        · cases hv
        · rename_i hg
          obtain ⟨_, K', hK', hn, hp⟩ := hs
          rw [hK] at hK'; cases hK'
          have hp := hp (by simpa using hg) rfl
          subst hp
          obtain ⟨_, hroot, _, _⟩ := h.key k _ hK
          obtain ⟨_, _, _, cur, e, hb, hcur⟩ := hroot
          have hcell : ∀ j, j < cells.length → w.cell? ⟨(B k).1, (B k).2 + j, none⟩ = some (U k j) := fun j hj => by simp [World.cell?, hb, hcur j hj]
          split at hv
          · rename_i hk
            split at hv
            rotate_left
            · cases hv
            rename_i ho
            injection hv with hv; injection hv with h1 h2; subst h1 h2
            refine ⟨_, load_agg hT hi hk (fun j => U k (o + j)) (fun j hj => by rw [add_plain, Nat.add_assoc]; exact hcell _ (by omega)), agg_rep (by simp; omega) (fun j s hs => ?_)⟩
            simp only [List.getElem?_mapIdx, List.getElem?_take, List.getElem?_drop] at hs
            obtain ⟨y, h1, rfl⟩ := Option.map_eq_some_iff.1 hs
            split at h1
            · exact look_rep h hK h1
            · cases h1
          · split at hv
            · split at hv
              · rename_i hk _ _ x hx
                injection hv with hv; injection hv with h1 h2; subst h1 h2
                exact ⟨_, load_one hT hi (fun x hx he => hk (hx.trans he)) (hcell o (List.getElem?_eq_some_iff.1 hx).1), look_rep h hK hx⟩
              · cases hv
            · cases hv
      · cases hv
    · -- a slice of one's own
      rename_i e k o p n r j
      split at hv
      · rename_i K hK
        split at hv
        · cases hv
        · rename_i hst
          split at hv
          · rename_i x hx
            split at hv
            · rename_i e' es hy
              split at hv
              · rename_i he
                subst he
                obtain ⟨_, K', hK', hn, hp⟩ := hs
                rw [hK] at hK'; cases hK'
                obtain ⟨g, m, c, c1, rfl⟩ := hp (by simpa using hst) x es hx hy
                split at hv
                · rename_i hk
                  split at hv
                  rotate_left
                  · cases hv
                  rename_i ho2
                  injection hv with hv; injection hv with h1 h2; subst h1 h2
                  have hcell : ∀ q, q < i.size → ∃ u, w.cell? ⟨g, r * cx.P.cellsOf e + (j + q), none⟩ = some u ∧ SCRep cx.P w I σ U B (lookIn k o p K.log.length r (j + q) ((es.f r).getD (j + q) .any)) u FP.none := fun q hq =>
                    lookIn_rep h hK hx hy c1 (row_getD ho (Nat.lt_of_lt_of_le (Nat.add_lt_add_left hq j) ho2))
                  refine ⟨_, load_agg hT hi hk (fun q => (w.cell? ⟨g, r * cx.P.cellsOf e + (j + q), none⟩).getD undef) (fun q hq => ?_), agg_rep (by simp only [List.length_mapIdx, List.length_take, List.length_drop]; omega) (fun q s hs => ?_)⟩
                  · obtain ⟨u, d1, _⟩ := hcell q hq
                    rw [add_plain, Nat.add_assoc, d1]; rfl
                  · simp only [List.getElem?_mapIdx, List.getElem?_take, List.getElem?_drop] at hs
                    obtain ⟨y, h1, rfl⟩ := Option.map_eq_some_iff.1 hs
                    split at h1
                    · rename_i hq
                      obtain ⟨u, d1, d2⟩ := hcell q hq
                      rw [d1]
                      rw [List.getD_eq_getElem?_getD (i := j + q), h1] at d2
                      exact d2
                    · cases h1
                · split at hv
                  · rename_i hk _
                    split at hv
                    rotate_left
                    · cases hv
                    rename_i y0 hy0
                    injection hv with hv; injection hv with h1 h2; subst h1 h2
                    obtain ⟨u, d1, d2⟩ := lookIn_rep h hK hx hy c1 (row_mk (es.l_eq ho) hy0)
                    exact ⟨u, load_one hT hi (fun x hx he => hk (hx.trans he)) d1, d2⟩
                  · cases hv
              · cases hv
            · cases hv
          · cases hv
      · cases hv
    · cases hv
  · cases hv
end
end Go.Proofs.AI

namespace Go.Proofs.AI
open Go.RowKit
set_option linter.unusedVariables false
set_option linter.unusedSimpArgs false

section
variable {cx : Cx} {I : Nat → Prop} {U : Nat → Nat → Value} {B : Nat → Nat × Nat} {F : Nat → FP} {σ : St} {a : Act} {w : World}
def vFieldAddr (T : Tab) (t : TypeId) (f : Nat) (s : SC) : Option SC :=
  match T t with
  | some ⟨.st, _, _, fs, _, _, _⟩ => match fs[f]? with
    | some (off, _, _) => match s with
      | .pr k o n => some (.pr k (o + off) n)
      | .p e k o p n i j => some (.p e k o p n i (j + off))
      | .q row o => some (.q row (o + off))
      | _ => none
    | none => none
  | _ => none
theorem fieldAt_run {P : Program} {T : Tab} (hT : TabOk P T) {t : TypeId} {f sz by_ : Nat} {fs : List (Nat × Nat × Bool)} {zr : List Value} {eq_ : List CK} {els_ : List (Option TypeId)} {off s : Nat} {b : Bool} (hi : T t = some ⟨.st, sz, by_, fs, zr, eq_, els_⟩) (hf : fs[f]? = some (off, s, b)) (ad : Addr) :
    (Instr.fieldAt t (.pointer (some ad)) f).run P w = .ok (.pointer (some (ad.add off))) w := by
  obtain ⟨gs, h1, h2, h3⟩ := (hT t _ hi).desc
  simp only at h2 h3
  have hlt : f < gs.size := by have := (List.getElem?_eq_some_iff.1 hf).1; omega
  obtain ⟨s', b', h4, ⟨inf, h5, h6, h7⟩, _⟩ := h3 f _ (Array.getElem?_eq_getElem hlt)
  rw [hf] at h4
  obtain ⟨rfl, rfl, rfl⟩ : off = gs[f].offset ∧ s = s' ∧ b = b' := by simpa using h4
  have hs : (sizeOf gs[f].type).run P w = .ok s w := by simp [sizeOf, typeInfo, h5, h6]
  simp [Instr.fieldAt, run_underlying h1, hlt, Instr.sureAddr, fieldPlace, hs, Nat.ne_of_gt h7]
theorem vFieldAddr_ok (h : RelW cx I U B F σ a w) {T : Tab} (hT : TabOk cx.P T) {t : TypeId} {f : Nat} {s z : SC} {v : Value} (hv : vFieldAddr T t f s = some z) (hs : SCRep cx.P w I σ U B s v FP.none) :
    ∃ r, (Instr.fieldAt t v f).run cx.P w = .ok r w ∧ SCRep cx.P w I σ U B z r FP.none := by
  simp only [vFieldAddr] at hv
  split at hv
  · rename_i sz by_ fs zr eq_ els_ hi
    split at hv
    · rename_i off s1 b1 hf
      split at hv
      · rename_i k o n
        injection hv with hv; subst hv
        obtain ⟨⟨ad, rfl⟩, K, hK, hn, hp⟩ := hs
        refine ⟨_, fieldAt_run hT hi hf ad, ⟨_, rfl⟩, K, hK, hn, fun hg hb => ?_⟩
        have := hp hg hb
        injection this with this; injection this with this
        subst this
        rw [add_plain, Nat.add_assoc]
      · rename_i e k o p n i j
        injection hv with hv; subst hv
        obtain ⟨⟨ad, rfl⟩, K, hK, hn, hp⟩ := hs
        refine ⟨_, fieldAt_run hT hi hf ad, ⟨_, rfl⟩, K, hK, hn, fun hst x0 es hx hy => ?_⟩
        obtain ⟨g, m, c, c1, c2⟩ := hp hst x0 es hx hy
        injection c2 with c2; injection c2 with c2
        subst c2
        exact ⟨g, m, c, c1, by rw [add_plain, Nat.add_assoc]⟩
      · rename_i row o
        injection hv with hv; subst hv
        obtain ⟨ad, rfl, e2, e3⟩ := hs
        exact ⟨_, fieldAt_run hT hi hf _, ad, by rw [add_add], e2, e3⟩
      · cases hv
    · cases hv
  · cases hv
/-- A field of a struct that stands in a slot. -/
def vField (T : Tab) (t : TypeId) (f : Nat) (xs : List SC) : Option Res :=
  match T t with
  | some ⟨.st, _, _, fs, _, _, _⟩ => match fs[f]? with
    | some (off, s, true) => if off + s ≤ xs.length then some (.agg ((xs.drop off).take s)) else none
    | some (off, _, false) => (xs[off]?).map .one
    | none => none
  | _ => none
theorem vField_ok {T : Tab} (hT : TabOk cx.P T) {t : TypeId} {f : Nat} {xs : List SC} {z : Res} {arr : Array Value} (hv : vField T t f xs = some z) (hsz : arr.size = xs.length)
    (hs : ∀ (o : Nat) s, xs[o]? = some s → ∃ u, arr[o]? = some u ∧ SCRep cx.P w I σ U B s u FP.none) :
    ∃ r, (Instr.field t (.agg arr) f).run cx.P w = .ok r w ∧ ResRep cx.P w I σ U B z r := by
  simp only [vField] at hv
  split at hv
  · rename_i sz by_ fs zr eq_ els_ hi
    obtain ⟨gs, h1, h2, h3⟩ := (hT t _ hi).desc
    simp only at h2 h3
    split at hv
    · rename_i off s hf
      split at hv
      · rename_i hle
        injection hv with hv; subst hv
        have hlt : f < gs.size := by have := (List.getElem?_eq_some_iff.1 hf).1; omega
        obtain ⟨s', b', h4, ⟨inf, h5, h6, h7⟩, d, h8, h9⟩ := h3 f _ (Array.getElem?_eq_getElem hlt)
        rw [hf] at h4
        obtain ⟨rfl, rfl, rfl⟩ : off = gs[f].offset ∧ s = s' ∧ true = b' := by simpa using h4
        have hagg : (isAgg gs[f].type).run cx.P w = .ok true w := by
          unfold isAgg
          rw [Sem.run_bind, run_underlying h8]
          cases d <;> simp_all [TypeDesc.isRow]
        have hsz' : (sizeOf gs[f].type).run cx.P w = .ok s w := by simp [sizeOf, typeInfo, h5, h6]
        refine ⟨.agg (arr.extract gs[f].offset (gs[f].offset + s)), by simp [Instr.field, run_underlying h1, hlt, asAgg, part, hagg, hsz'], _, rfl, by simp; omega, fun o x hx => ?_⟩
        rw [List.getElem?_take, List.getElem?_drop] at hx
        split at hx
        · rename_i ho
          obtain ⟨u, e1, e2⟩ := hs _ _ hx
          refine ⟨u, ?_, e2⟩
          rw [Array.getElem?_extract, if_pos (by omega)]
          exact e1
        · cases hx
      · cases hv
    · rename_i off s hf
      obtain ⟨x, hx, rfl⟩ := Option.map_eq_some_iff.1 hv
      have hlt : f < gs.size := by have := (List.getElem?_eq_some_iff.1 hf).1; omega
      obtain ⟨s', b', h4, _, d, h8, h9⟩ := h3 f _ (Array.getElem?_eq_getElem hlt)
      rw [hf] at h4
      obtain ⟨rfl, rfl, rfl⟩ : off = gs[f].offset ∧ s = s' ∧ false = b' := by simpa using h4
      have hagg : (isAgg gs[f].type).run cx.P w = .ok false w := by
        unfold isAgg
        rw [Sem.run_bind, run_underlying h8]
        cases d <;> simp_all [TypeDesc.isRow]
      obtain ⟨u, e1, e2⟩ := hs _ _ hx
      exact ⟨u, by simp [Instr.field, run_underlying h1, hlt, asAgg, part, hagg, e1], e2⟩
    · cases hv
  · cases hv
/-- A length. -/
def vLen (T : Tab) (σ : St) (t : TypeId) : SC → Option CV
  | .c (.s x) => match T t with
    | some ⟨.str, _, _, _, _, _, _⟩ => some (.n .i64 x.size)
    | _ => none
  | .c (.vl (.slice none 0 0)) => match T t with
    | some ⟨.sl _, _, _, _, _, _, _⟩ => some (.n .i64 0)
    | _ => none
  | s => match rowsAt σ s with
    | some (_, es) => match T t with
      | some ⟨.sl _, _, _, _, _, _, _⟩ => some (.n .i64 es.n)
      | _ => none
    | none => none
theorem vLen_ok (h : RelW cx I U B F σ a w) {T : Tab} (hT : TabOk cx.P T) {t ty : TypeId} {s : SC} {z : CV} {v : Value} (hv : vLen T σ t s = some z) (hs : SCRep cx.P w I σ U B s v FP.none) :
    ∃ r, (Builtin.len_ #[t] ty #[v]).run cx.P w = .ok r w ∧ Rep cx.P w I z r FP.none := by
  have hsl : ∀ {e : TypeId} {sz by_ : Nat} {fs : List (Nat × Nat × Bool)} {zr : List Value} {eq_ : List CK} {els_ : List (Option TypeId)} (hi : T t = some ⟨.sl e, sz, by_, fs, zr, eq_, els_⟩) (A : Option Addr) (n c : Nat), (Builtin.len_ #[t] ty #[.slice A n c]).run cx.P w = .ok (.int .i64 n) w := by
    intro e sz by_ fs zr eq_ els_ hi A n c
    have hd := (hT t _ hi).desc
    simp only at hd
    simp [Builtin.len_, run_underlying hd, goInt]
  have gen : ∀ {e : TypeId} {es : Rows CV}, rowsAt σ s = some (e, es) → (match T t with | some ⟨.sl _, _, _, _, _, _, _⟩ => some (CV.n .i64 (es.n : Int)) | _ => none) = some z →
      ∃ r, (Builtin.len_ #[t] ty #[v]).run cx.P w = .ok r w ∧ Rep cx.P w I z r FP.none := by
    intro e es hr hz
    obtain ⟨A, c, rfl, _, _⟩ := rowsAt_len h hs hr
    split at hz
    · rename_i hi
      injection hz with hz; subst hz
      exact ⟨_, hsl hi _ _ _, .n⟩
    · cases hz
  unfold vLen at hv
  split at hv
  · split at hv
    · rename_i hi
      injection hv with hv; subst hv
      have hd := (hT t _ hi).desc
      simp only at hd
      generalize FP.none = F0 at hs
      cases hs with
      | s => exact ⟨_, by simp [Builtin.len_, run_underlying hd, goInt], .n⟩
    · cases hv
  · split at hv
    · rename_i hi
      injection hv with hv; subst hv
      generalize FP.none = F0 at hs
      cases hs with
      | vl => exact ⟨_, hsl hi _ _ _, .n⟩
    · cases hv
  · split at hv
    · rename_i hr
      exact gen hr hv
    · cases hv
/-- A string's byte. -/
def vByte (T : Tab) (t : TypeId) : CV → CV → Option (Prop × CV)
  | .s x, .n _ ix => match T t with
    | some ⟨.str, _, _, _, _, _, _⟩ => some (0 ≤ ix ∧ ix < x.size, .n .u8 (byteAt x ix.toNat))
    | _ => none
  | _, _ => none
theorem vByte_ok {T : Tab} (hT : TabOk cx.P T) {t : TypeId} {x y z : CV} {u v : Value} {F F' : FP} {ob : Prop} (hv : vByte T t x y = some (ob, z)) (ho : ob) (hx : Rep cx.P w I x u F) (hy : Rep cx.P w I y v F') :
    ∃ r, (Instr.index t u v).run cx.P w = .ok r w ∧ Rep cx.P w I z r FP.none := by
  cases hx <;> try (simp [vByte] at hv; done)
  cases hy <;> try (simp [vByte] at hv; done)
  rename_i x k ix
  simp only [vByte] at hv
  split at hv
  · rename_i hi
    injection hv with hv; injection hv with h1 h2; subst h1 h2
    have hd := (hT t _ hi).desc
    simp only at hd
    have hlt : ix.toNat < x.size := by omega
    refine ⟨.int .u8 (byteAt x ix.toNat), ?_, .n⟩
    simp [Instr.index, run_underlying hd, asIntOf, ho.1, byteAt, hlt]
  · cases hv
/-- Bounds that stand, or are told. -/
def bnd : Option CV → Option (Option Int)
  | none => some none
  | some (.n _ x) => some (some x)
  | _ => none
def vSlice (T : Tab) (σ : St) (t : TypeId) (s : SC) (l h : Option Int) : Option (Prop × SC) :=
  match s with
  | .c (.s x) => match T t with
    | some ⟨.str, _, _, _, _, _, _⟩ => some (0 ≤ l.getD 0 ∧ l.getD 0 ≤ h.getD x.size ∧ h.getD x.size ≤ x.size, .c (.s (x.extract (l.getD 0).toNat (h.getD x.size).toNat)))
    | _ => none
  | .c (.sh e es) => match T t with
    | some ⟨.sl e', _, _, _, _, _, _⟩ => if e' = e then match T e with
      | some _ => some (0 ≤ l.getD 0 ∧ l.getD 0 ≤ h.getD es.n ∧ h.getD es.n ≤ es.n, .c (.sh e (cutR es (l.getD 0).toNat (h.getD es.n).toNat)))
      | none => none
      else none
    | _ => none
  | .v e k o p n none => match rowsAt σ (.v e k o p n none) with
    | some (_, es) => match T t with
      | some ⟨.sl e', _, _, _, _, _, _⟩ => if e' = e then match T e with
        | some _ => some (0 ≤ l.getD 0 ∧ l.getD 0 ≤ h.getD es.n ∧ h.getD es.n ≤ es.n, .v e k o p n (some ((l.getD 0).toNat, (h.getD es.n).toNat)))
        | none => none
        else none
      | _ => none
    | none => none
  | _ => none
theorem bound_run {P : Program} {k : IntKind} {x : Int} {y : Nat} {c : BoundsCode} (h0 : 0 ≤ x) (h1 : x ≤ y) : (Instr.sliceBound (.int k x) y c).run P w = .ok x.toNat w := by
  simp [Instr.sliceBound, asIntOf, h0, h1]
theorem bounds_run {P : Program} {sl : Bool} {len cap : Nat} {l h : Option Int} {lo hi : Option Value} (hl : ∀ x, l = some x → ∃ k, lo = some (.int k x)) (hl' : l = none → lo = none) (hh : ∀ x, h = some x → ∃ k, hi = some (.int k x)) (hh' : h = none → hi = none)
    (h0 : 0 ≤ l.getD 0) (h1 : l.getD 0 ≤ h.getD len) (h2 : h.getD len ≤ cap) (h3 : len ≤ cap) :
    (Instr.sliceBounds sl len cap lo hi none).run P w = .ok ((l.getD 0).toNat, (h.getD len).toNat, cap) w := by
  cases l with
  | none =>
    rw [hl' rfl]
    cases h with
    | none => rw [hh' rfl]; simp [Instr.sliceBounds]
    | some y =>
      obtain ⟨k, rfl⟩ := hh y rfl
      simp only [Option.getD_some, Option.getD_none] at h1 h2
      simp [Instr.sliceBounds, bound_run (P := P) (w := w) (k := k) h1 h2]
  | some x =>
    obtain ⟨k, rfl⟩ := hl x rfl
    cases h with
    | none =>
      rw [hh' rfl]
      simp only [Option.getD_some, Option.getD_none] at h0 h1
      simp [Instr.sliceBounds, bound_run (P := P) (w := w) (k := k) h0 h1]
    | some y =>
      obtain ⟨k', rfl⟩ := hh y rfl
      simp only [Option.getD_some] at h0 h1 h2
      have hy : (0 : Int) ≤ y := by omega
      have e1 := bound_run (P := P) (w := w) (k := k') (c := if sl then .sliceAcap else .sliceAlen) hy h2
      have e2 := bound_run (P := P) (w := w) (k := k) (y := y.toNat) (c := .sliceB) h0 (by omega)
      simp [Instr.sliceBounds, e1, e2]
theorem vSlice_ok (h : RelW cx I U B F σ a w) {T : Tab} (hT : TabOk cx.P T) {t : TypeId} {s z : SC} {l hh : Option Int} {lo hi : Option Value} {ob : Prop} {v : Value} (hv : vSlice T σ t s l hh = some (ob, z)) (ho : ob) (hs : SCRep cx.P w I σ U B s v FP.none)
    (hl : ∀ x, l = some x → ∃ k, lo = some (.int k x)) (hl' : l = none → lo = none) (hh1 : ∀ x, hh = some x → ∃ k, hi = some (.int k x)) (hh' : hh = none → hi = none) :
    ∃ r, (Instr.sliceAt t v lo hi none).run cx.P w = .ok r w ∧ SCRep cx.P w I σ U B z r FP.none := by
  unfold vSlice at hv
  split at hv
  · rename_i x
    split at hv
    · rename_i hi'
      injection hv with hv; injection hv with h1 h2; subst h1 h2
      have hd := (hT t _ hi').desc
      simp only at hd
      generalize FP.none = F0 at hs
      cases hs with
      | s =>
        have hb := bounds_run (P := cx.P) (w := w) (sl := false) (len := x.size) (cap := x.size) hl hl' hh1 hh' ho.1 ho.2.1 ho.2.2 (Nat.le_refl _)
        exact ⟨_, by simp [Instr.sliceAt, Instr.slice, run_underlying hd, hb], .s⟩
    · cases hv
  · rename_i e es
    split at hv
    · rename_i e' sz by_ fs zr eq_ els_ hi'
      split at hv
      · rename_i he
        subst he
        split at hv
        · rename_i ie hie
          injection hv with hv; injection hv with h1 h2; subst h1 h2
          have hd := (hT t _ hi').desc
          simp only at hd
          obtain ⟨A, c, us, rfl, g1, g2, g3, g4, g5⟩ := Rep.sh_inv hs
          have hb := bounds_run (P := cx.P) (w := w) (sl := true) (len := es.n) (cap := c) hl hl' hh1 hh' ho.1 ho.2.1 (by have := ho.2.2; omega) g1
          have hsz := sizeOf_run (hT e' ie hie) w
          have hcs := (hT e' ie hie).cellsOf
          obtain ⟨o1, o2, o3⟩ := ho
          generalize l.getD 0 = li at *
          generalize hh.getD (es.n : Int) = hi0 at *
          have hlen : (cutR es li.toNat hi0.toNat).n = hi0.toNat - li.toNat := rfl
          have hget : ∀ k, (cutR es li.toNat hi0.toNat).l[k]? = if li.toNat + k < hi0.toNat then es.l[li.toNat + k]? else none := fun k => cutR_at es (by omega) k
          refine ⟨.slice (if c = li.toNat then A else A.map (·.add (li.toNat * ie.size))) (hi0.toNat - li.toNat) (c - li.toNat), by simp [Instr.sliceAt, Instr.slice, run_underlying hd, hb, hsz], ?_⟩
          rw [← hlen]
          refine Rep.sh (fun k o => us (li.toNat + k) o) (by rw [hlen]; omega) (by rw [hlen]; omega) (fun hp => ?_) (fun k row hk => ?_) (fun k row o x hk hx => ?_)
          · obtain ⟨ad, e1, e2, e3⟩ := g3 (by omega)
            subst e1
            rw [if_neg (by omega)]
            refine ⟨ad.add (li.toNat * ie.size), rfl, by rw [add_block]; exact e2, fun k row hk o ho => ?_⟩
            rw [hget] at hk
            split at hk
            · rw [add_add, ← hcs, ← Nat.add_assoc, ← Nat.add_mul]
              exact e3 _ row hk o ho
            · cases hk
          · rw [hget] at hk
            split at hk
            · exact g4 _ row hk
            · cases hk
          · rw [hget] at hk
            split at hk
            · exact g5 _ row o x hk hx
            · cases hk
        · cases hv
      · cases hv
    · cases hv
  · rename_i e k o p n
    split at hv
    · rename_i e0 es hr
      split at hv
      · rename_i e' sz by_ fs zr eq_ els_ hi'
        split at hv
        · rename_i he
          subst he
          split at hv
          · rename_i ie hie
            injection hv with hv; injection hv with h1 h2; subst h1 h2
            have hd := (hT t _ hi').desc
            simp only at hd
            obtain ⟨A, c, rfl, g1, g2, _⟩ := rowsAt_len h hs hr
            obtain ⟨rfl, K, x, hK, hst, hx, hg⟩ := rowsAt_none hr
            have hb := bounds_run (P := cx.P) (w := w) (sl := true) (len := es.n) (cap := c) hl hl' hh1 hh' ho.1 ho.2.1 (by have := ho.2.2; omega) g1
            have hsz := sizeOf_run (hT e0 ie hie) w
            have hcs := (hT e0 ie hie).cellsOf
            obtain ⟨_, K', hK', hn, hp⟩ := hs
            refine ⟨.slice (if c = (l.getD 0).toNat then A else A.map (·.add ((l.getD 0).toNat * ie.size))) ((hh.getD es.n).toNat - (l.getD 0).toNat) (c - (l.getD 0).toNat), by simp [Instr.sliceAt, Instr.slice, run_underlying hd, hb, hsz], rfl, K', hK', hn, fun hst' x0 y0 hx0 hy0 => ?_⟩
            obtain ⟨u, c1, c2⟩ := hp hst' x0 y0 hx0 hy0
            simp only [sub] at c2
            subst c2
            exact ⟨_, c1, by simp [sub, hcs]⟩
          · cases hv
        · cases hv
      · cases hv
    · cases hv
  · cases hv
end
end Go.Proofs.AI

namespace Go.Proofs.AI
open Go.RowKit
set_option linter.unusedVariables false
set_option linter.unusedSimpArgs false

/-- Plain cells of a struct, compared. -/
def eqCells : List CK → List SC → List SC → Option Bool
  | [.b], [.c (.b x)], [.c (.b y)] => some (x == y)
  | [.n k], [.c (.n k1 x)], [.c (.n k2 y)] => if k1 = k ∧ k2 = k then some (x == y) else none
  | .b :: ks, .c (.b x) :: xs, .c (.b y) :: ys => (eqCells ks xs ys).map fun r => x == y && r
  | .n k :: ks, .c (.n k1 x) :: xs, .c (.n k2 y) :: ys => if k1 = k ∧ k2 = k then (eqCells ks xs ys).map fun r => x == y && r else none
  | _, _, _ => none
/-- '==' and its kin, beyond numbers and strings. -/
def vEq (T : Tab) (σ : St) (neg : Bool) (t : TypeId) (x y : Res) : Option (Prop × CV) :=
  match T t with
  | some i => match i.k with
    | .bool => match x, y with
      | .one (.c (.b p)), .one (.c (.b q)) => some (True, .b (if neg then !(p == q) else (p == q)))
      | _, _ => none
    | .sl _ => match y with
      | .one (.c (.vl (.slice none 0 0))) => match x with
        | .one (.c (.vl (.slice none 0 0))) => some (True, .b (if neg then false else true))
        | .one s => match rowsAt σ s with
          | some (_, es) => some (0 < es.n, .b (if neg then true else false))
          | none => none
        | _ => none
      | _ => none
    | .st => match x, y with
      | .agg xs, .agg ys => match i.eq with
        | [] => none
        | ks => (eqCells ks xs ys).map fun r => (True, .b (if neg then !r else r))
      | _, _ => none
    | _ => none
  | none => none
section
variable {cx : Cx} {I : Nat → Prop} {U : Nat → Nat → Value} {B : Nat → Nat × Nat} {F : Nat → FP} {σ : St} {a : Act} {w : World}
theorem ck_b {s : SC} {u : Value} {x : Bool} (h : SCRep cx.P w I σ U B s u FP.none) (hs : s = .c (.b x)) : u = .bool x := by
  subst hs
  generalize FP.none = F0 at h
  cases h; rfl
theorem ck_n {s : SC} {u : Value} {k : IntKind} {x : Int} (h : SCRep cx.P w I σ U B s u FP.none) (hs : s = .c (.n k x)) : u = .int k x := by
  subst hs
  generalize FP.none = F0 at h
  cases h; rfl
theorem eqCells_ok : ∀ (ks : List CK) (xs ys : List SC) (us vs : List Value) (r : Bool), eqCells ks xs ys = some r → us.length = xs.length → vs.length = ys.length →
    (∀ (o : Nat) s, xs[o]? = some s → ∃ u, us[o]? = some u ∧ SCRep cx.P w I σ U B s u FP.none) → (∀ (o : Nat) s, ys[o]? = some s → ∃ u, vs[o]? = some u ∧ SCRep cx.P w I σ U B s u FP.none) →
    areCK ks us ∧ areCK ks vs ∧ eqL us vs = r := by
  intro ks
  induction ks with
  | nil => intro xs ys us vs r h; simp [eqCells] at h
  | cons k ks ih =>
    intro xs ys us vs r h hl1 hl2 h1 h2
    cases xs with
    | nil => cases k <;> simp [eqCells] at h
    | cons x xs =>
      cases ys with
      | nil => cases k <;> simp [eqCells] at h
      | cons y ys =>
        cases us with
        | nil => simp at hl1
        | cons u us =>
          cases vs with
          | nil => simp at hl2
          | cons v vs =>
            obtain ⟨u', e1, e2⟩ := h1 0 x rfl
            obtain ⟨v', e3, e4⟩ := h2 0 y rfl
            obtain rfl : u = u' := by simpa using e1
            obtain rfl : v = v' := by simpa using e3
            have t1 : ∀ (o : Nat) s, xs[o]? = some s → ∃ u, us[o]? = some u ∧ SCRep cx.P w I σ U B s u FP.none := fun o s hs => by simpa using h1 (o + 1) s (by simpa using hs)
            have t2 : ∀ (o : Nat) s, ys[o]? = some s → ∃ u, vs[o]? = some u ∧ SCRep cx.P w I σ U B s u FP.none := fun o s hs => by simpa using h2 (o + 1) s (by simpa using hs)
            -- the head, and whether more follows
            cases k with
            | b =>
              cases x with
              | c x =>
                cases x with
                | b p =>
                  cases y with
                  | c y =>
                    cases y with
                    | b q =>
                      have hu := ck_b e2 rfl
                      have hv := ck_b e4 rfl
                      subst hu hv
                      cases ks with
                      | nil =>
                        cases xs with
                        | nil =>
                          cases ys with
                          | nil =>
                            simp [eqCells] at h
                            have : us = [] := by simpa using hl1
                            have : vs = [] := by simpa using hl2
                            subst us vs
                            exact ⟨⟨⟨p, rfl⟩, trivial⟩, ⟨⟨q, rfl⟩, trivial⟩, by simp [eqL, eqC, h]⟩
                          | cons y ys => simp [eqCells] at h
                        | cons x xs => simp [eqCells] at h
                      | cons k2 ks =>
                        have h' : ∃ r', eqCells (k2 :: ks) xs ys = some r' ∧ (p == q && r') = r := by simpa [eqCells] using h
                        obtain ⟨r', h5, h6⟩ := h'
                        obtain ⟨i1, i2, i3⟩ := ih xs ys us vs r' h5 (by simpa using hl1) (by simpa using hl2) t1 t2
                        refine ⟨⟨⟨p, rfl⟩, i1⟩, ⟨⟨q, rfl⟩, i2⟩, ?_⟩
                        cases us with
                        | nil => simp [areCK] at i1
                        | cons u2 us =>
                          rw [eqL]
                          · rw [i3]; exact h6
                          · simp
                    | _ => simp [eqCells] at h
                  | _ => simp [eqCells] at h
                | _ => simp [eqCells] at h
              | _ => simp [eqCells] at h
            | n k =>
              cases x with
              | c x =>
                cases x with
                | n k1 p =>
                  cases y with
                  | c y =>
                    cases y with
                    | n k2 q =>
                      have hu := ck_n e2 rfl
                      have hv := ck_n e4 rfl
                      subst hu hv
                      cases ks with
                      | nil =>
                        cases xs with
                        | nil =>
                          cases ys with
                          | nil =>
                            simp [eqCells] at h
                            obtain ⟨⟨rfl, rfl⟩, h⟩ := h
                            have : us = [] := by simpa using hl1
                            have : vs = [] := by simpa using hl2
                            subst us vs
                            exact ⟨⟨⟨p, rfl⟩, trivial⟩, ⟨⟨q, rfl⟩, trivial⟩, by simp [eqL, eqC, h]⟩
                          | cons y ys => simp [eqCells] at h
                        | cons x xs => simp [eqCells] at h
                      | cons k3 ks =>
                        have h' : (k1 = k ∧ k2 = k) ∧ ∃ r', eqCells (k3 :: ks) xs ys = some r' ∧ (p == q && r') = r := by simpa [eqCells] using h
                        obtain ⟨⟨rfl, rfl⟩, r', h5, h6⟩ := h'
                        obtain ⟨i1, i2, i3⟩ := ih xs ys us vs r' h5 (by simpa using hl1) (by simpa using hl2) t1 t2
                        refine ⟨⟨⟨p, rfl⟩, i1⟩, ⟨⟨q, rfl⟩, i2⟩, ?_⟩
                        cases us with
                        | nil => simp [areCK] at i1
                        | cons u2 us =>
                          rw [eqL]
                          · rw [i3]; exact h6
                          · simp
                    | _ => simp [eqCells] at h
                  | _ => simp [eqCells] at h
                | _ => simp [eqCells] at h
              | _ => simp [eqCells] at h
theorem ResRep.sc {x : SC} {v : Value} (h : ResRep cx.P w I σ U B (.one x) v) : SCRep cx.P w I σ U B x v FP.none := h
theorem vl_nil {s : SC} {u : Value} (h : SCRep cx.P w I σ U B s u FP.none) (hs : s = .c (.vl (.slice none 0 0))) : u = .slice none 0 0 := by
  subst hs
  generalize FP.none = F0 at h
  cases h; rfl
theorem rowsAt_some (h : RelW cx I U B F σ a w) {s : SC} {v : Value} {e : TypeId} {es : Rows CV} (hs : SCRep cx.P w I σ U B s v FP.none) (hr : rowsAt σ s = some (e, es)) (hp : 0 < es.n) :
    ∃ ad n c, v = .slice (some ad) n c := by
  cases s with
  | c x =>
    cases x <;> simp [rowsAt] at hr
    obtain ⟨rfl, rfl⟩ := hr
    obtain ⟨A, c, us, rfl, h1, h2, h3, _⟩ := Rep.sh_inv hs
    obtain ⟨ad, rfl, _⟩ := h3 hp
    exact ⟨ad, _, _, rfl⟩
  | v e0 k o p n r =>
    cases r with
    | some r => simp [rowsAt] at hr
    | none =>
      obtain ⟨rfl, K, x, hK, hst, hx, hg⟩ := rowsAt_none hr
      obtain ⟨_, K', hK', _, hv⟩ := hs
      rw [hK] at hK'
      cases hK'
      obtain ⟨u, G, c1, c2, _⟩ := way_at h hK hx hg
      obtain ⟨u', d1, d2⟩ := hv hst x _ hx hg
      rw [c1] at d1
      cases d1
      simp only [sub] at d2
      subst d2
      rcases c2.ow_inv with ⟨_, hz0⟩ | ⟨g, cap, cur, us, G, rfl, _⟩
      · omega
      · exact ⟨_, _, _, rfl⟩
  | pr k o n => simp [rowsAt] at hr
  | p e k o p n i j => simp [rowsAt] at hr
  | q row o => simp [rowsAt] at hr
  | fn f ks => simp [rowsAt] at hr
theorem vEq_ok (h : RelW cx I U B F σ a w) {T : Tab} (hT : TabOk cx.P T) {neg : Bool} {t : TypeId} {x y : Res} {z : CV} {u v : Value} {ob : Prop} (ex ey : Operand) (hv : vEq T σ neg t x y = some (ob, z)) (ho : ob)
    (hx : ResRep cx.P w I σ U B x u) (hy : ResRep cx.P w I σ U B y v) :
    ∃ r, (do eqGuard (if neg then .neq else .eql) t ex ey u v; binOp (if neg then .neq else .eql) t u v : Sem Value).run cx.P w = .ok r w ∧ Rep cx.P w I z r FP.none := by
  unfold vEq at hv
  split at hv
  · rename_i i hi
    split at hv
    · rename_i hk
      have hd := (hT t _ hi).desc
      simp only [hk] at hd
      split at hv
      · rename_i p q
        injection hv with hv; injection hv with h1 h2; subst h1 h2
        have hu := ck_b (ResRep.sc hx) rfl
        have hv := ck_b (ResRep.sc hy) rfl
        subst hu hv
        have he := run_equal_bool (P := cx.P) w t p q hd
        cases neg
        · refine ⟨.bool (p == q), ?_, .b⟩
          show (do eqGuard .eql t ex ey (.bool p) (.bool q); binOp .eql t (.bool p) (.bool q) : Sem Value).run cx.P w = _
          have hg : eqGuard .eql t ex ey (.bool p) (.bool q) = pure () := rfl
          have hb : binOp .eql t (.bool p) (.bool q) = (do pure (.bool (← Op.equal t (.bool p) (.bool q)))) := rfl
          simp only [hg, hb, Sem.run_bind, Sem.run_pure, Result.andThen_ok, he]
        · refine ⟨.bool (!(p == q)), ?_, .b⟩
          show (do eqGuard .neq t ex ey (.bool p) (.bool q); binOp .neq t (.bool p) (.bool q) : Sem Value).run cx.P w = _
          have hg : eqGuard .neq t ex ey (.bool p) (.bool q) = pure () := rfl
          have hb : binOp .neq t (.bool p) (.bool q) = (do pure (.bool (!(← Op.equal t (.bool p) (.bool q))))) := rfl
          simp only [hg, hb, Sem.run_bind, Sem.run_pure, Result.andThen_ok, he]
      · cases hv
    · rename_i e hk
      have hd := (hT t _ hi).desc
      simp only [hk] at hd
      have key : ∀ (A : Option Addr) (n c : Nat), (do eqGuard (if neg then .neq else .eql) t ex ey (.slice A n c) (.slice none 0 0); binOp (if neg then .neq else .eql) t (.slice A n c) (.slice none 0 0) : Sem Value).run cx.P w = .ok (.bool (if neg then !A.isNone else A.isNone)) w := by
        intro A n c
        cases neg
        · show (do eqGuard .eql t ex ey (.slice A n c) (.slice none 0 0); binOp .eql t (.slice A n c) (.slice none 0 0) : Sem Value).run cx.P w = _
          have hg : eqGuard .eql t ex ey (.slice A n c) (.slice none 0 0) = pure () := rfl
          simp only [hg, Sem.run_bind, Sem.run_pure, Result.andThen_ok]
          exact Lib.run_eql_slice_nil w t e A n c 0 0 hd
        · show (do eqGuard .neq t ex ey (.slice A n c) (.slice none 0 0); binOp .neq t (.slice A n c) (.slice none 0 0) : Sem Value).run cx.P w = _
          have hg : eqGuard .neq t ex ey (.slice A n c) (.slice none 0 0) = pure () := rfl
          simp only [hg, Sem.run_bind, Sem.run_pure, Result.andThen_ok]
          exact run_neq_slice_nil_any w t e A n c 0 0 hd
      split at hv
      · have hv' := vl_nil (ResRep.sc hy) rfl
        subst hv'
        split at hv
        · injection hv with hv; injection hv with h1 h2; subst h1 h2
          have hu := vl_nil (ResRep.sc hx) rfl
          subst hu
          exact ⟨_, key _ _ _, by cases neg <;> exact .b⟩
        · rename_i s _
          split at hv
          · rename_i e' es hr
            injection hv with hv; injection hv with h1 h2; subst h1 h2
            obtain ⟨ad, n, c, rfl⟩ := rowsAt_some h (ResRep.sc hx) hr ho
            exact ⟨_, key _ _ _, by cases neg <;> exact .b⟩
          · cases hv
        · cases hv
      · cases hv
    · rename_i hk
      split at hv
      · rename_i xs ys
        split at hv
        · cases hv
        · rename_i ks hne
          obtain ⟨r, h1, h2⟩ := Option.map_eq_some_iff.1 hv
          injection h2 with h3 h4; subst h3 h4
          obtain ⟨ax, rfl, sx, rx⟩ := hx
          obtain ⟨ay, rfl, sy, ry⟩ := hy
          obtain ⟨q1, q2, q3⟩ := eqCells_ok (w := w) (I := I) (σ := σ) (U := U) (B := B) (cx := cx) i.eq xs ys ax.toList ay.toList r h1 (by simpa using sx) (by simpa using sy) (fun o s hs => by simpa using rx o s hs) (fun o s hs => by simpa using ry o s hs)
          obtain ⟨r1, r2⟩ := (hT t i hi).eqs (fun he => hne he) w ax ay ex ey q1 q2
          rw [q3] at r1 r2
          cases neg
          · exact ⟨_, r1, .b⟩
          · exact ⟨_, r2, .b⟩
      · cases hv
    · cases hv
  · cases hv
end
end Go.Proofs.AI
