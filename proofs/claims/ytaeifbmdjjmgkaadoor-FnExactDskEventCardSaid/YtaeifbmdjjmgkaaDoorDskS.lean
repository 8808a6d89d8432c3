/- What the reference's DskText writes. Conditions: none. -/
import Derived.Test.YtaeifbmdjjmgkaaDoorDskD
import Derived.Test.YtaeifbmdjjmgkaaDoorWLast
import Derived.RegionTactic
import Derived.ChangeAlike
namespace Go.Proofs.YtaeifbmdjjmgkaaDoor
open Go.RowKit Go.Proofs.YtaeifbmdjjmgkaaDoorW.PrintWords
set_option linter.unusedVariables false
set_option linter.unusedSimpArgs false
set_option maxRecDepth 100000

/-- A number of an event in memory. -/
theorem ev_cell {e : Ev} {W : World} {B : Nat} (h : W.heap[B]? = some (.cells #[.int .i64 e.kind, .int .i64 e.op.kind, .int .i64 e.op.who, .int .i64 e.op.in_, .int .i64 e.op.code, .int .i64 e.op.sec, .int .i64 e.op.fam, .int .i64 e.op.gen, .int .i64 e.at_, .int .i64 e.place, .int .i64 e.keep] 29 (0, 0))) (o : Nat) (ho : o < 11) : W.cell? ⟨B, o, none⟩ = some (.int .i64 (e.fld o)) := by
  rw [blk_cell h o]
  match o, ho with
  | 0, _ => rfl
  | 1, _ => rfl
  | 2, _ => rfl
  | 3, _ => rfl
  | 4, _ => rfl
  | 5, _ => rfl
  | 6, _ => rfl
  | 7, _ => rfl
  | 8, _ => rfl
  | 9, _ => rfl
  | 10, _ => rfl
def opWord (o : Op) : ByteArray := if o.kind = 1 then ⟨#[105, 110]⟩ else if o.kind = 2 then ⟨#[108, 101, 116]⟩ else if o.kind = 3 then ⟨#[116, 114, 97, 100, 101]⟩ else if o.kind = 4 then ⟨#[110, 101, 120, 116]⟩ else ⟨#[111, 117, 116]⟩
def opNums (o : Op) : List Int := if o.kind = 1 then [o.who, o.in_] else if o.kind = 2 then [o.who, o.in_, o.code, o.sec] else if o.kind = 3 then [o.code, o.sec, o.fam] else if o.kind = 4 then [o.fam, o.gen] else [o.who, o.in_]

theorem R_ints (W : World) (base : Nat) (hb : base ≤ W.heap.size) (xs : List Int) (hx : xs.length ≤ 1000) (cs : Array Value) (hc : cs.toList = xs.map (Value.int .i64)) (n : Nat) (hn : n = xs.length) (b : Nat) (hbw : b = W.heap.size) :
    kInt.R 3 (W.alloc (.cells cs 3)) base (fun _ => True) (.slice (some ⟨b, 0, none⟩) n n) xs := by
  subst hn
  subst hbw
  have h := World.ownsRow_lit (base := base) (e := 3) (size := 1) W cs xs.length hb (by unfold maxLen; omega) (by rw [← Array.length_toList, hc]; simp)
  rw [hc] at h
  exact Kd.R_of_own (enc := Value.int .i64) (h1 := fun _ => rfl) h (fun _ _ => trivial)
theorem alloc_size (w : World) (o : Obj) : (w.alloc o).heap.size = w.heap.size + 1 := Array.size_push ..

set_option maxHeartbeats 4000000 in
theorem l9Op_any (o : Op) (w : World) :
    Calls Tryd.prog 12 #[o.val] w fun e w' => ∃ v, e = .returned (.tuple #[.string (opWord o), v]) ∧ kInt.R 3 w' w.heap.size (fun _ => True) v (opNums o) ∧ Below w.heap.size w w' := by
  simp only [Op.val]
  by_cases h1 : o.kind = 1
  · have g1 : opWord o = ⟨#[105, 110]⟩ := by simp [opWord, h1]
    have g2 : opNums o = [o.who, o.in_] := by simp [opNums, h1]
    rw [g1, g2]
    have e1 : (o.kind == 1) = true := by simp [h1]
    clear g1 g2 h1
    go_enter Tryd.func12, Tryd.ntmps12
    go_wp2
    go_region
    all_goals go_wp2
    all_goals go_ret2
    all_goals exact ⟨_, rfl, (by (repeat (first | apply Kd.R_drewN | apply Kd.R_drew)); exact R_ints _ _ (by rw [alloc_size]; omega) _ (by simp) _ rfl _ rfl _ (by rw [alloc_size])), (by repeat (first | exact Below.refl _ _ | apply below_alloc | apply pw_below_drewN | apply below_drew1))⟩
  · skip
    by_cases h2 : o.kind = 2
    · have g1 : opWord o = ⟨#[108, 101, 116]⟩ := by simp [opWord, h1, h2]
      have g2 : opNums o = [o.who, o.in_, o.code, o.sec] := by simp [opNums, h1, h2]
      rw [g1, g2]
      have e1 : (o.kind == 1) = false := by simp [h1]
      have e2 : (o.kind == 2) = true := by simp [h2]
      clear g1 g2 h1 h2
      go_enter Tryd.func12, Tryd.ntmps12
      go_wp2
      go_region
      all_goals go_wp2
      all_goals go_ret2
      all_goals exact ⟨_, rfl, (by (repeat (first | apply Kd.R_drewN | apply Kd.R_drew)); exact R_ints _ _ (by rw [alloc_size]; omega) _ (by simp) _ rfl _ rfl _ (by rw [alloc_size])), (by repeat (first | exact Below.refl _ _ | apply below_alloc | apply pw_below_drewN | apply below_drew1))⟩
    · skip
      by_cases h3 : o.kind = 3
      · have g1 : opWord o = ⟨#[116, 114, 97, 100, 101]⟩ := by simp [opWord, h1, h2, h3]
        have g2 : opNums o = [o.code, o.sec, o.fam] := by simp [opNums, h1, h2, h3]
        rw [g1, g2]
        have e1 : (o.kind == 1) = false := by simp [h1]
        have e2 : (o.kind == 2) = false := by simp [h2]
        have e3 : (o.kind == 3) = true := by simp [h3]
        clear g1 g2 h1 h2 h3
        go_enter Tryd.func12, Tryd.ntmps12
        go_wp2
        go_region
        all_goals go_wp2
        all_goals go_ret2
        all_goals exact ⟨_, rfl, (by (repeat (first | apply Kd.R_drewN | apply Kd.R_drew)); exact R_ints _ _ (by rw [alloc_size]; omega) _ (by simp) _ rfl _ rfl _ (by rw [alloc_size])), (by repeat (first | exact Below.refl _ _ | apply below_alloc | apply pw_below_drewN | apply below_drew1))⟩
      · skip
        by_cases h4 : o.kind = 4
        · have g1 : opWord o = ⟨#[110, 101, 120, 116]⟩ := by simp [opWord, h1, h2, h3, h4]
          have g2 : opNums o = [o.fam, o.gen] := by simp [opNums, h1, h2, h3, h4]
          rw [g1, g2]
          have e1 : (o.kind == 1) = false := by simp [h1]
          have e2 : (o.kind == 2) = false := by simp [h2]
          have e3 : (o.kind == 3) = false := by simp [h3]
          have e4 : (o.kind == 4) = true := by simp [h4]
          clear g1 g2 h1 h2 h3 h4
          go_enter Tryd.func12, Tryd.ntmps12
          go_wp2
          go_region
          all_goals go_wp2
          all_goals go_ret2
          all_goals exact ⟨_, rfl, (by (repeat (first | apply Kd.R_drewN | apply Kd.R_drew)); exact R_ints _ _ (by rw [alloc_size]; omega) _ (by simp) _ rfl _ rfl _ (by rw [alloc_size])), (by repeat (first | exact Below.refl _ _ | apply below_alloc | apply pw_below_drewN | apply below_drew1))⟩
        · have g1 : opWord o = ⟨#[111, 117, 116]⟩ := by simp [opWord, h1, h2, h3, h4]
          have g2 : opNums o = [o.who, o.in_] := by simp [opNums, h1, h2, h3, h4]
          rw [g1, g2]
          have e1 : (o.kind == 1) = false := by simp [h1]
          have e2 : (o.kind == 2) = false := by simp [h2]
          have e3 : (o.kind == 3) = false := by simp [h3]
          have e4 : (o.kind == 4) = false := by simp [h4]
          clear g1 g2 h1 h2 h3 h4
          go_enter Tryd.func12, Tryd.ntmps12
          go_wp2
          go_region
          all_goals go_wp2
          all_goals go_ret2
          all_goals exact ⟨_, rfl, (by (repeat (first | apply Kd.R_drewN | apply Kd.R_drew)); exact R_ints _ _ (by rw [alloc_size]; omega) _ (by simp) _ rfl _ rfl _ (by rw [alloc_size])), (by repeat (first | exact Below.refl _ _ | apply below_alloc | apply pw_below_drewN | apply below_drew1))⟩
end Go.Proofs.YtaeifbmdjjmgkaaDoor
