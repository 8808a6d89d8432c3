/- Small facts on worlds, endings and element kinds that all walks use. Conditions: none. -/
import Derived.Test.YtaeifbmdjjmgkaaDoorProg
import Derived.Test.YtaeifbmdjjmgkaaDoorWWords
import Derived.Test.YtaeifbmdjjmgkaaDoorData
import Derived.Outline
import Derived.WalkLawsBesides
import Derived.Lib.Hide
import Derived.IntWalk
import Derived.Deep.RegionHeld3
import Derived.Deep.AppendLies
import Derived.Deep.Light
namespace Go.Proofs.YtaeifbmdjjmgkaaDoor
open Go.RowKit Go.Proofs.YtaeifbmdjjmgkaaDoorW.PrintWords
set_option linter.unusedVariables false
set_option linter.unusedSimpArgs false

theorem bl_eq : ∀ a b, Go.Op.bytesLess a b = bl a b
  | _, [] => by simp [Go.Op.bytesLess, bl]
  | [], _ :: _ => by simp [Go.Op.bytesLess, bl]
  | a :: x, b :: y => by simp [Go.Op.bytesLess, bl, bl_eq x y]
theorem klt_def (a b : ByteArray) : Go.Op.bytesLess a.toList b.toList = klt a b := bl_eq _ _
/-- A contract 'w = w'' inside a region that only reads. -/
theorem quiet_left {P : Program} {f : FuncId} {args : Array Value} {w : World} {n : Nat} {v : Value}
    (h : Calls P f args (w.drewN n) fun e w' => e = .returned v ∧ w.drewN n = w') : Calls P f args (w.drewN n) fun e w'' => e = .returned v ∧ ∃ m, w'' = w.drewN m :=
  h.mono fun _ _ ⟨he, hm⟩ => ⟨he, n, hm.symm⟩
theorem cell_drewN (w : World) (n : Nat) (a : Addr) : (w.drewN n).cell? a = w.cell? a := rfl
theorem C_drewN {α : Type} {d : Kd α} {w : World} {A : Option Addr} {m : Nat} {xs : List α} (h : d.C w A m xs) (n : Nat) : d.C (w.drewN n) A m xs := Kd.C_below h (pw_below_drewN (Below.refl _ _) n)
theorem ba_eq {a b : ByteArray} (h : a.data.toList = b.data.toList) : a = b := by
  cases a; cases b
  congr 1
  exact Array.toList_inj.1 h
theorem ba_toList {a b : ByteArray} (h : a.toList = b.toList) : a = b := ba_eq (by rw [ByteArray.toList_eq, ByteArray.toList_eq] at h; exact h)
theorem ret_bool {a b : Bool} (h : a = b) : Ending.returned (.bool a) = .returned (.bool b) := by rw [h]
theorem ret_int {k : IntKind} {a b : Int} (h : a = b) : Ending.returned (.int k a) = .returned (.int k b) := by rw [h]
theorem ret_str {a b : ByteArray} (h : a = b) : Ending.returned (.string a) = .returned (.string b) := by rw [h]

def kInt : Kd Int := Kd.int .i64
def kInts : Kd (List Int) := Kd.slice 3 kInt
def kStrs : Kd (List ByteArray) := Kd.slice 9 Kd.string
def Op.cells (o : Op) : List Value := [.int .i64 o.kind, .int .i64 o.who, .int .i64 o.in_, .int .i64 o.code, .int .i64 o.sec, .int .i64 o.fam, .int .i64 o.gen]
def Op.val (o : Op) : Value := .agg #[.int .i64 o.kind, .int .i64 o.who, .int .i64 o.in_, .int .i64 o.code, .int .i64 o.sec, .int .i64 o.fam, .int .i64 o.gen]
theorem infoInt : (Tryd.prog.info? 3).map (fun i => (i.zero, i.size, i.bytes)) = some (some (.int .i64 0), 1, 8) := by kernel_rfl
theorem infoStr : (Tryd.prog.info? 9).map (fun i => (i.zero, i.size, i.bytes)) = some (some (.string ⟨#[]⟩), 1, 16) := by kernel_rfl

section
variable {w : World} {base : Nat} {ok : Nat → Prop} {cs : List Value} {A : Option Addr} {n : Nat}

/-! #### []int -/
theorem at_int {xs : List Int} (h : kInt.C w A n xs) (k : Nat) (hk : k < n) : ∃ ad, A = some ad ∧ w.cell? (ad.add k) = some (.int .i64 (ix 0 xs k)) := by
  obtain ⟨ad, c, e, _, hK, hc⟩ := Kd.C_get h (0 : Int) (k : Int) (by omega) (by omega)
  refine ⟨ad, e, ?_⟩
  have hK' : c = [.int .i64 (ix 0 xs k)] := hK
  have := hc 0 (.int .i64 (ix 0 xs k)) (by rw [hK']; rfl)
  simpa [kInt, Kd.int, Kd.scalar] using this
theorem at_str {xs : List ByteArray} (h : Kd.string.C w A n xs) (k : Nat) (hk : k < n) : ∃ ad, A = some ad ∧ w.cell? (ad.add k) = some (.string (ix ⟨#[]⟩ xs k)) := by
  obtain ⟨ad, c, e, _, hK, hc⟩ := Kd.C_get h (⟨#[]⟩ : ByteArray) (k : Int) (by omega) (by omega)
  refine ⟨ad, e, ?_⟩
  have hK' : c = [.string (ix ⟨#[]⟩ xs k)] := hK
  have := hc 0 (.string (ix ⟨#[]⟩ xs k)) (by rw [hK']; rfl)
  simpa [Kd.string, Kd.scalar] using this
theorem C_len {α : Type} {d : Kd α} {xs : List α} (h : d.C w A n xs) : xs.length = n ∧ n ≤ 9223372036854775807 := ⟨h.1, h.2.1⟩

/-! #### rows that are made -/
/-- An empty literal is a row of the call's own. -/
theorem R_lit0 {α : Type} (d : Kd α) (e : Nat) (W : World) (base : Nat) (hb : base ≤ W.heap.size) : d.R e (W.alloc (.cells #[] e)) base (fun _ => True) (.slice (some ⟨W.heap.size, 0, none⟩) 0 0) [] :=
  ⟨fun _ _ => trivial, OwnRow.lit W base (ps := []) (inner := []) (Reps.none _ _) hb (by simp)⟩
theorem cell_of_below {w W : World} {a : Addr} {v : Value} (hb : Below w.heap.size w W) (hc : w.cell? a = some v) : W.cell? a = some v := pw_cell_below hb hc
theorem blk_cell0 {w : World} {g : Nat} {v : Value} {t : TypeId} (h : w.heap[g]? = some (.cells #[v] t (0, 0))) : w.cell? ⟨g, 0, none⟩ = some v := by simp [World.cell?, h]
theorem blk_frozen0 {w : World} {g : Nat} {v : Value} {t : TypeId} (h : w.heap[g]? = some (.cells #[v] t (0, 0))) : w.frozen? ⟨g, 0, none⟩ = false := by simp [World.frozen?, h]
end
end Go.Proofs.YtaeifbmdjjmgkaaDoor
