/- How the program finds what is known of a line. Conditions: none. -/
import Derived.Test.YtaeifbmdjjmgkaaDoorDskD
import Derived.Test.YtaeifbmdjjmgkaaDoorOp
import Derived.Laws.Cells
import Derived.Lib.SliceRun
import Derived.Shelf.Abstract
namespace Go.Proofs.YtaeifbmdjjmgkaaDoor
open Go.RowKit Go.Proofs.YtaeifbmdjjmgkaaDoorW.PrintWords
set_option linter.unusedVariables false
set_option linter.unusedSimpArgs false
set_option maxRecDepth 100000

def kPtr (B : Nat) : Kd Nat := Kd.scalar (fun o => .pointer (some ⟨B, o, none⟩)) (fun _ => rfl)
def kMan (B : Nat) : Kd Man := Kd.iso (Kd.pair Kd.string (Kd.pair (Kd.int .i64) (Kd.pair (Kd.int .i64) (Kd.slice 52 (kPtr B))))) (fun m => (m.word, m.kind, m.op, m.offs))
theorem kMan_mk {B base : Nat} {w : World} {ok : Nat → Prop} {m : Man} {v : Value} (h : (kPtr B).R 52 w base ok v m.offs) : (kMan B).M w base ok m [.string m.word, .int .i64 m.kind, .int .i64 m.op, v] :=
  ⟨[.string m.word], [.int .i64 m.kind, .int .i64 m.op, v], rfl, rfl, [.int .i64 m.kind], [.int .i64 m.op, v], rfl, rfl, [.int .i64 m.op], [v], rfl, rfl, ⟨v, rfl, h⟩⟩
theorem kMan_open {B : Nat} {w : World} {x : Man} {cs : List Value} (h : (kMan B).K w x cs) : ∃ A1 c1, cs = [.string x.word, .int .i64 x.kind, .int .i64 x.op, .slice A1 x.offs.length c1] ∧ x.offs.length ≤ c1 ∧ (kPtr B).C w A1 x.offs.length x.offs := by
  obtain ⟨_, _, rfl, rfl, ⟨_, _, rfl, rfl, ⟨_, _, rfl, rfl, ⟨A1, c1, rfl, l1, g1⟩⟩⟩⟩ := h
  exact ⟨A1, c1, rfl, l1, g1⟩
theorem at_man {B : Nat} {w : World} {A : Option Addr} {n : Nat} {xs : List Man} (h : (kMan B).C w A n xs) (k : Nat) (hk : k < n) : ∃ ad A1 c1, A = some ad ∧
    w.cell? (ad.add (k * 4)) = some (.string (ix .z xs k).word) ∧ w.cell? ⟨(ad.add (k * 4)).block, (ad.add (k * 4)).off + 1, none⟩ = some (.int .i64 (ix .z xs k).kind) ∧
    w.cell? ⟨(ad.add (k * 4)).block, (ad.add (k * 4)).off + 2, none⟩ = some (.int .i64 (ix .z xs k).op) ∧ w.cell? ⟨(ad.add (k * 4)).block, (ad.add (k * 4)).off + 3, none⟩ = some (.slice A1 (ix .z xs k).offs.length c1) ∧
    (ix .z xs k).offs.length ≤ c1 ∧ (kPtr B).C w A1 (ix .z xs k).offs.length (ix .z xs k).offs := by
  obtain ⟨ad, c, e, _, hK, hc⟩ := Kd.C_get h Man.z (k : Int) (by omega) (by omega)
  simp only [Int.toNat_natCast] at hK hc
  have hc' : ∀ j u, c[j]? = some u → w.cell? (ad.add (k * 4 + j)) = some u := hc
  obtain ⟨A1, c1, rfl, l1, g1⟩ := kMan_open hK
  exact ⟨ad, A1, c1, e, hc' 0 _ rfl, by rw [← add_field _ _ 1 (by omega)]; exact hc' 1 _ rfl, by rw [← add_field _ _ 2 (by omega)]; exact hc' 2 _ rfl, by rw [← add_field _ _ 3 (by omega)]; exact hc' 3 _ rfl, l1, g1⟩
theorem at_ptr {B : Nat} {w : World} {A : Option Addr} {n : Nat} {xs : List Nat} (h : (kPtr B).C w A n xs) (k : Nat) (hk : k < n) : ∃ ad, A = some ad ∧ w.cell? (ad.add k) = some (.pointer (some ⟨B, ix 0 xs k, none⟩)) := by
  obtain ⟨ad, c, e, _, hK, hc⟩ := Kd.C_get h (0 : Nat) (k : Int) (by omega) (by omega)
  refine ⟨ad, e, ?_⟩
  have hK' : c = [.pointer (some ⟨B, ix 0 xs k, none⟩)] := hK
  have := hc 0 (.pointer (some ⟨B, ix 0 xs k, none⟩)) (by rw [hK']; rfl)
  simpa [kPtr, Kd.scalar] using this

set_option maxHeartbeats 2000000 in
/-- slices.IndexFunc over what is known of lines. -/
theorem idxFunc_any (B g : Nat) (lb : Value) (p : Man → Bool) (xs : List Man) (A : Option Addr) (c : Nat) (w : World) (hx : (kMan B).C w A xs.length xs)
    (eg : ∀ args w, (callFunc g args).run Tryd.prog w = .ok (.enter g args) w)
    (hp : ∀ (W : World) (m : Man) (A1 : Option Addr) (n1 c1 : Nat), Below w.heap.size w W → Calls Tryd.prog g #[.agg #[.string m.word, .int .i64 m.kind, .int .i64 m.op, .slice A1 n1 c1], lb] W fun e w' => e = .returned (.bool (p m)) ∧ Below w.heap.size w w') :
    Calls Tryd.prog 19 #[.slice A xs.length c, .func (.func g) #[] #[lb]] w fun e w' => e = .returned (.int .i64 (idxOf p xs)) ∧ Below w.heap.size w w' := by
  have hm := (C_len hx).2
  go_enter Tryd.func19, Tryd.ntmps19
  go_wp2
  go_loopw [5, 8] (fun _ s8 wr => ∃ k : Nat, k ≤ xs.length ∧ s8 = .int .i64 k ∧ Hid (Below w.heap.size w wr) ∧ Hid (∀ j, j < k → p (ix .z xs j) = false)) (fun _ s8 _ => xs.length - (intOf s8).toNat)
  case atStart => exact ⟨0, Nat.zero_le _, rfl, Lib.hid (Below.refl _ w), Lib.hid (fun j hj => absurd hj (Nat.not_lt_zero _))⟩
  case round =>
    obtain ⟨k, hk, rfl, HB, HA⟩ := hrel
    by_cases hlt : k < xs.length
    · obtain ⟨ad, A1, c1, rfl, q1, q2, q3, q4, _, _⟩ := at_man (Kd.C_below hx HB.out) k hlt
      have hcall := hp wr (ix .z xs k) A1 (ix .z xs k).offs.length c1 HB.out
      clear hp
      generalize hq : p (ix .z xs k) = b at hcall
      have HQ := Lib.hid hq
      clear hq
      cases b with
      | true =>
        go_wp2_with (go_at_fn g; refine hcall.mono ?_; rintro e w' ⟨rfl, hb'⟩)
        go_ret
        exact ⟨ret_int (idxOf_hit hlt HQ.out HA.out).symm, by assumption⟩
      | false =>
        go_wp2_with (go_at_fn g; refine hcall.mono ?_; rintro e w' ⟨rfl, hb'⟩)
        go_roundw
        case rel => exact ⟨k + 1, by omega, by go_num, Lib.hid (by assumption), Lib.hid (fun j hj => by
          rcases Nat.lt_or_ge j k with h | h
          · exact HA.out j h
          · obtain rfl : j = k := by omega
            exact HQ.out)⟩
        case measure => simp [intOf]; omega
    · have : k = xs.length := by omega
      subst this
      go_wp2
      go_ret
      exact ⟨ret_int (idxOf_miss HA.out).symm, HB.out⟩
end Go.Proofs.YtaeifbmdjjmgkaaDoor
