/- Slices written in place: what is left of a block, and of rows. Conditions: none. -/
import Derived.Test.YtcmjdjomidhdnaaGreatDoorAiE
import Derived.ArgAppend
import Derived.Deep.AppendSrc
import Derived.Laws.IdiomCopy
import Derived.Test.YtcmjdjomidhdnaaGreatDoorGloA
import Derived.Shelf.RegionOpenPlain
import Derived.WalkKit
import Derived.Deep.LoopGhost
import Derived.Deep.RegionLaw
import Derived.Lib.Walk
import Derived.Lib.SliceRun
import Derived.Lib.AppendZerosOnto
import Derived.Lib.Overlaps
import Derived.Laws.Externs
namespace Go.Proofs.AI
open Go.RowKit
set_option linter.unusedVariables false
set_option linter.unusedSimpArgs false

/-- All but one block is as it was. -/
structure Oth (w w' : World) (g : Nat) : Prop where
  os : w'.os = w.os
  tape : w'.tape = w.tape
  output : w'.output = w.output
  size : w.heap.size ≤ w'.heap.size
  block : ∀ b, b < w.heap.size → b ≠ g → w'.heap[b]? = w.heap[b]?
theorem Oth.refl (w : World) (g : Nat) : Oth w w g := ⟨rfl, rfl, rfl, Nat.le_refl _, fun _ _ _ => rfl⟩
theorem Oth.drew (w : World) (g : Nat) : Oth w w.drew g := ⟨rfl, rfl, rfl, Nat.le_refl _, fun _ _ _ => rfl⟩
theorem Oth.trans {w w1 w2 : World} {g : Nat} (h : Oth w w1 g) (k : Oth w1 w2 g) : Oth w w2 g :=
  ⟨k.os.trans h.os, k.tape.trans h.tape, k.output.trans h.output, Nat.le_trans h.size k.size, fun b hb hn => (k.block b (Nat.lt_of_lt_of_le hb h.size) hn).trans (h.block b hb hn)⟩
theorem oth_setCells (g : Nat) : ∀ (vs : List Value) (o : Nat) (w : World), Oth w (w.setCells g o vs) g
  | [], o, w => Oth.refl _ _
  | v :: r, o, w => by
    rw [World.setCells]
    refine Oth.trans ?_ (oth_setCells g r (o + 1) _)
    refine ⟨rfl, rfl, rfl, by simp [World.setCell], fun b hb hn => heap_far w g o v hn⟩
theorem setCells_heap (g : Nat) : ∀ (vs : List Value) (o : Nat) (w : World) {cur : Array Value} {e : TypeId} {fr : Nat × Nat}, w.heap[g]? = some (.cells cur e fr) →
    ∃ cur', (w.setCells g o vs).heap[g]? = some (.cells cur' e fr) ∧ cur'.size = cur.size ∧ (∀ q, q < o ∨ o + vs.length ≤ q → cur'[q]? = cur[q]?) ∧ ∀ (j : Nat) v, vs[j]? = some v → o + j < cur.size → cur'[o + j]? = some v
  | [], o, w, cur, e, fr, h => ⟨cur, h, rfl, fun _ _ => rfl, fun j v hj => by simp at hj⟩
  | v :: r, o, w, cur, e, fr, h => by
    rw [World.setCells]
    obtain ⟨cur', h1, h2, h3, h4⟩ := setCells_heap g r (o + 1) _ (heap_set w g o v h)
    refine ⟨cur', h1, by simpa using h2, fun q hq => ?_, fun j u hj hlt => ?_⟩
    · rw [h3 q (by simp at hq; omega), Array.getElem?_setIfInBounds_ne (by simp at hq; omega)]
    · cases j with
      | zero =>
        simp at hj; subst hj
        rw [Nat.add_zero, h3 o (by omega)]
        simp at hlt
        simp [hlt]
      | succ j =>
        have := h4 j u (by simpa using hj) (by simpa using by omega)
        rw [show o + (j + 1) = o + 1 + j by omega]; exact this
theorem cell_of {w : World} {g : Nat} {cur : Array Value} {e : TypeId} (h : w.heap[g]? = some (.cells cur e (0, 0))) (q : Nat) : w.cell? ⟨g, q, none⟩ = cur[q]? := by
  simp [World.cell?, h]
theorem frozen_of {w : World} {g : Nat} {cur : Array Value} {e : TypeId} (h : w.heap[g]? = some (.cells cur e (0, 0))) (q : Nat) : w.frozen? ⟨g, q, none⟩ = false := by
  simp [World.frozen?, h]
theorem shape_of {w : World} {g : Nat} {cur : Array Value} {e : TypeId} (h : w.heap[g]? = some (.cells cur e (0, 0))) : w.shape? g = some (e, cur.size) := by
  simp [World.shape?, h]
section
variable {P : Program}
/-- 'copy(d, s)', of cells of any size. -/
theorem run_copy_any (w : World) (dT sT ty elem : TypeId) (b o dLen dCap : Nat) (a : Addr) (sLen sCap : Nat) (cs : List Value) (i : TypeInfo)
    (hu : P.underlying dT = some (.slice elem)) (hs : P.info? elem = some i) (hn : cs.length = Nat.min sLen dLen * i.size)
    (hsrc : ∀ j v, cs[j]? = some v → w.cell? (a.add j) = some v) (hc : ∀ j, j < cs.length → (w.cell? ⟨b, o + j, none⟩).isSome = true) (hf : ∀ j, j < cs.length → w.frozen? ⟨b, o + j, none⟩ = false) (h1 : ∀ v ∈ cs, v.oneCell' = true) :
    (Builtin.copy_ #[dT, sT] ty #[.slice (some ⟨b, o, none⟩) dLen dCap, .slice (some a) sLen sCap]).run P w = .ok (goInt (Nat.min sLen dLen)) (w.setCells b o cs) := by
  have hfc := run_firstCells_some (P := P) w i.size (Nat.min sLen dLen) a sLen sCap cs hn hsrc
  have hst := run_storeCells_cells (P := P) b o cs 0 w (by simpa using hc) (by simpa using hf) h1
  simp only [Nat.add_zero] at hst
  simp [Builtin.copy_, run_underlying hu, sizeOf, typeInfo, hs, Builtin.lenOf, hfc, hst]
/-- 'clear(s)', of cells of any size. -/
theorem run_clear_any (w : World) (t e ty : TypeId) (z : Value) (ht : P.underlying t = some (.slice e)) (hv : ∀ w, (zeroValue e).run P w = .ok z w) (h1 : ∀ v ∈ z.cells, v.oneCell' = true) (b o n c : Nat) (hn : 0 < n)
    (hc : ∀ j, j < n * z.cells.size → (w.cell? ⟨b, o + j, none⟩).isSome = true) (hf : ∀ j, j < n * z.cells.size → w.frozen? ⟨b, o + j, none⟩ = false) :
    ∃ zs : List Value, (Builtin.clear_ #[t] ty #[.slice (some ⟨b, o, none⟩) n c]).run P w = .ok (.tuple #[]) (w.setCells b o zs) ∧ zs.length = n * z.cells.size := by
  have hl : (Builtin.zeroCells z.cells n).toList.length = n * z.cells.size := by simp [Builtin.zeroCells]
  have hone : ∀ v ∈ (Builtin.zeroCells z.cells n).toList, v.oneCell' = true := fun v hv' => by
    simp only [Builtin.zeroCells, Array.toList_map, List.mem_map] at hv'
    obtain ⟨k, hk, rfl⟩ := hv'
    have hk : k < n * z.cells.size := by simpa using hk
    have hlt : k % z.cells.size < z.cells.size := Nat.mod_lt _ (by
      rcases Nat.eq_zero_or_pos z.cells.size with h | h
      · rw [h] at hk; simp at hk
      · exact h)
    rw [getElem!_pos z.cells _ hlt]
    exact h1 _ (Array.getElem_mem hlt)
  have hst := run_storeCells_cells (P := P) b o (Builtin.zeroCells z.cells n).toList 0 w (by rw [hl]; simpa using hc) (by rw [hl]; simpa using hf) hone
  simp only [Nat.add_zero] at hst
  obtain ⟨m, rfl⟩ : ∃ m, n = m + 1 := ⟨n - 1, by omega⟩
  exact ⟨_, by simp [Builtin.clear_, run_underlying ht, hv, hst], hl⟩
end
/-! ### Rows -/
def delR {C : Type} (es : Rows C) (i j : Nat) : Rows C := ⟨es.n - (j - i), fun k => if k < i then es.f k else es.f (k + (j - i))⟩
def insR {C : Type} (es : Rows C) (i : Nat) (row : List C) : Rows C := ⟨es.n + 1, fun k => if k < i then es.f k else if k = i then row else es.f (k - 1)⟩
/-- slices.Delete, of a slice of one's own: rows i to j are taken out. -/
def DelCall (P : Program) (f : FuncId) (e : TypeId) (z : Nat) : Prop := ∀ (w : World) (g n cap i j : Nat) (cur : Array Value), w.heap[g]? = some (.cells cur e (0, 0)) → cur.size = cap * z → n ≤ cap → cap ≤ maxLen → i < j → j ≤ n → (∀ q v, q < n * z → cur[q]? = some v → v.oneCell' = true) →
  Calls P f #[.slice (some ⟨g, 0, none⟩) n cap, .int .i64 i, .int .i64 j] w fun ed w' => ed = .returned (.slice (some ⟨g, 0, none⟩) (n - (j - i)) cap) ∧ ∃ cur' : Array Value, w'.heap[g]? = some (.cells cur' e (0, 0)) ∧ cur'.size = cur.size ∧
    (∀ q, q < i * z → cur'[q]? = cur[q]?) ∧ (∀ q, i * z ≤ q → q < (n - (j - i)) * z → cur'[q]? = cur[q + (j - i) * z]?) ∧ Oth w w' g
/-- slices.Insert of one, into a slice of one's own. -/
def InsCall (P : Program) (f : FuncId) (e : TypeId) (z : Nat) : Prop := ∀ (w : World) (A : Option Nat) (n c i h vc : Nat) (olds news : List Value), i ≤ n → n ≤ c → c ≤ maxLen → n ≤ 1000 → olds.length = n * z → news.length = z → (∀ v ∈ olds, v.oneCell' = true) → (∀ v ∈ news, v.oneCell' = true) →
  (A = none → n = 0 ∧ c = 0) → (∀ g, A = some g → g ≠ h ∧ ∃ cur : Array Value, w.heap[g]? = some (.cells cur e (0, 0)) ∧ cur.size = c * z ∧ ∀ q, q < n * z → cur[q]? = olds[q]?) → (∃ hcur : Array Value, w.heap[h]? = some (.cells hcur e (0, 0)) ∧ ∀ q, q < z → hcur[q]? = news[q]?) →
  Calls P f #[.slice (A.map fun g => ⟨g, 0, none⟩) n c, .int .i64 i, .slice (some ⟨h, 0, none⟩) 1 vc] w fun ed w' => ∃ (g' c' : Nat) (cur' : Array Value), ed = .returned (.slice (some ⟨g', 0, none⟩) (n + 1) c') ∧ w'.heap[g']? = some (.cells cur' e (0, 0)) ∧ cur'.size = c' * z ∧ n + 1 ≤ c' ∧ c' ≤ maxLen ∧
    (∀ q, q < (n + 1) * z → cur'[q]? = (olds.take (i * z) ++ news ++ olds.drop (i * z))[q]?) ∧ (A = some g' ∨ w.heap.size ≤ g') ∧ (∀ b, b < w.heap.size → A ≠ some b → w'.heap[b]? = w.heap[b]?) ∧ w'.os = w.os ∧ w'.tape = w.tape ∧ w'.output = w.output ∧ w.heap.size ≤ w'.heap.size
/-- What is left of a frame, where one slice of one's own comes back. -/
theorem rel_ret {P : Program} {m : Nat} {w w' : World} {F0 : CP} {I0 : Nat → Prop} {args : Array Value} {ins : L} {I : Nat → Prop} {U : Nat → Nat → Value} {B : Nat → Nat × Nat} {F : Nat → FP} (hr : RelW ⟨P, m, w, F0, I0, [], #[]⟩ I U B F (mk ins) ⟨args, []⟩ w)
    {y : CV} {v : Value} {N : FP} (hy : Rep P w' I y v N) (hN : ∀ b, N b → b < w'.heap.size ∧ ¬ I b ∧ (w.heap.size ≤ b ∨ ∀ q, F0 b q)) (hf : Fr w w' F0) :
    Rel ⟨P, m + 1, w, F0, I0, [], args⟩ (mk [(m, ⟨.one, [.c y], []⟩)]) ⟨args.push v, []⟩ w' := by
  have hsz : args.size = m := hr.size
  refine ⟨I, fun _ _ => v, fun _ => (0, 0), fun t => if t = m then N else FP.none, ⟨by simp [hsz], rfl, fun t K hK => ?_, fun t t' b h1 h2 => ?_, fun t b hb => ?_, fun t b hb => ?_, fun b hb => Nat.lt_of_lt_of_le (hr.ro b hb) hf.size, hr.ro0, hr.roN, hf⟩⟩
  · simp only [mk, up] at hK
    split at hK
    · rename_i ht
      subst ht; cases hK
      refine ⟨Nat.lt_succ_self _, ⟨⟨fun _ _ => hy.one, rfl, ?_⟩, ⟨fun o => if o = 0 then N else FP.none, fun o x hx => ?_, fun o o' b h1 h2 => ?_, fun o b hb => ?_⟩, fun b hb => by cases hb.1⟩⟩
      · show (args.push v).getD t undef = v
        rw [← hsz]; simp [Array.getD_eq_getD_getElem?]
      · cases o with
        | zero => simp at hx; subst hx; exact hy
        | succ o => simp at hx
      · by_cases e1 : o = 0 <;> by_cases e2 : o' = 0
        · omega
        · simp [e2, FP.none] at h2
        · simp [e1, FP.none] at h1
        · simp [e1, FP.none] at h1
      · by_cases e1 : o = 0
        · simp [e1] at hb; exact ⟨by simpa using hb, fun hr => by cases hr.1⟩
        · simp [e1, FP.none] at hb
    · cases hK
  · by_cases e1 : t = m <;> by_cases e2 : t' = m
    · rw [e1, e2]
    · simp [e2, FP.none] at h2
    · simp [e1, FP.none] at h1
    · simp [e1, FP.none] at h1
  · by_cases e1 : t = m
    · simp [e1] at hb; exact ⟨(hN b hb).1, (hN b hb).2.1⟩
    · simp [e1, FP.none] at hb
  · by_cases e1 : t = m
    · simp [e1] at hb; exact (hN b hb).2.2.imp id .inl
    · simp [e1, FP.none] at hb
end Go.Proofs.AI

namespace Go.Proofs.AI
open Go.RowKit
set_option linter.unusedVariables false
set_option linter.unusedSimpArgs false

abbrev kc (y : CV) : Ky := ⟨.one, [.c y], []⟩
theorem arr3 {args : Array Value} (h : args.size = 3) : args = #[args.getD 0 undef, args.getD 1 undef, args.getD 2 undef] := by
  refine Array.ext (by simp [h]) fun j h1 h2 => ?_
  have hj : j = 0 ∨ j = 1 ∨ j = 2 := by omega
  rcases hj with rfl | rfl | rfl <;> simp [Array.getD_eq_getD_getElem?, h1]
theorem Fr.oth {w w' : World} {g : Nat} {F0 : CP} (h : Oth w w' g) (hg : ∀ q, F0 g q) : Fr w w' F0 :=
  ⟨h.os, h.tape, h.output, h.size, fun b hb hn => h.block b hb (by rintro rfl; exact hn 0 (hg 0)), fun b cs e fr hn hb => by
    have hlt : b < w.heap.size := by
      rcases Nat.lt_or_ge b w.heap.size with h1 | h1
      · exact h1
      · rw [Array.getElem?_eq_none h1] at hb; cases hb
    exact ⟨cs, (h.block b hlt (by rintro rfl; exact hn hg)).trans hb, fun _ _ => rfl⟩⟩
theorem delR_l {C : Type} (es : Rows C) {i j k : Nat} {row : List C} (hij : i < j) (hj : j ≤ es.n) (h : (delR es i j).l[k]? = some row) : k < es.n - (j - i) ∧ es.l[if k < i then k else k + (j - i)]? = some row := by
  obtain ⟨h1, h2⟩ := Rows.l_lt h
  simp only [delR] at h1 h2
  refine ⟨h1, ?_⟩
  split at h2 <;> rename_i hk
  · rw [if_pos hk, Rows.l_eq es (by omega), h2]
  · rw [if_neg hk, Rows.l_eq es (by omega), h2]
theorem insR_l {C : Type} (es : Rows C) {i k : Nat} {row0 row : List C} (hi : i ≤ es.n) (h : (insR es i row0).l[k]? = some row) : k < es.n + 1 ∧ (k < i ∧ es.l[k]? = some row ∨ k = i ∧ row = row0 ∨ i < k ∧ es.l[k - 1]? = some row) := by
  obtain ⟨h1, h2⟩ := Rows.l_lt h
  simp only [insR] at h1 h2
  refine ⟨h1, ?_⟩
  split at h2 <;> rename_i hk
  · exact .inl ⟨hk, by rw [Rows.l_eq es (by omega), h2]⟩
  · split at h2 <;> rename_i hk2
    · exact .inr (.inl ⟨hk2, h2.symm⟩)
    · exact .inr (.inr ⟨by omega, by rw [Rows.l_eq es (by omega), h2]⟩)
section
variable {P : Program} {f : FuncId} {e : TypeId} {z : Nat}
theorem del_fun (hc : DelCall P f e z) (hz : P.cellsOf e = z) (hent : ∀ args w, (callFunc f args).run P w = .ok (.enter f args) w) (es : Rows CV) (i j : Nat) (hij : i < j) (hj : j ≤ es.n) :
    FunOK P f 3 [] [(0, kc (.ow e es)), (1, kc (.n .i64 i)), (2, kc (.n .i64 j))] (· = [(3, kc (.ow e (delR es i j)))]) := by
  intro F0 I0 args w hs ⟨I, U, B, F, hr⟩
  obtain ⟨_, r0, ⟨N0, n0, _, f0⟩, _⟩ := hr.key 0 (kc (.ow e es)) (by simp [mk, up])
  obtain ⟨_, r1, ⟨N1, n1, _⟩, _⟩ := hr.key 1 (kc (.n .i64 i)) (by simp [mk, up])
  obtain ⟨_, r2, ⟨N2, n2, _⟩, _⟩ := hr.key 2 (kc (.n .i64 j)) (by simp [mk, up])
  have a0 : args.getD 0 undef = U 0 0 := r0.2.2
  have a1 : args.getD 1 undef = .int .i64 i := by rw [show args.getD 1 undef = U 1 0 from r1.2.2]; exact rep_n (n1 0 _ rfl)
  have a2 : args.getD 2 undef = .int .i64 j := by rw [show args.getD 2 undef = U 2 0 from r2.2.2]; exact rep_n (n2 0 _ rfl)
  have hrep : Rep P w I (.ow e es) (U 0 0) (N0 0) := n0 0 _ rfl
  rcases Rep.ow_inv hrep with ⟨_, h0⟩ | ⟨g, cap, cur, us, G, hv, h1, h2, h3, h4, h5, h6, h7, h8, h9, h10, h11⟩
  · omega
  rw [hz] at h2 h7 h8
  have hargs : args = #[.slice (some ⟨g, 0, none⟩) es.n cap, .int .i64 i, .int .i64 j] := by rw [arr3 hs, a0, a1, a2, hv]
  have hown : ∀ b, N0 0 b → b < w.heap.size ∧ ¬ I b ∧ ∀ q, F0 b q := fun b hb => by
    have hb := (f0 0 b hb).1
    obtain ⟨o1, o2⟩ := hr.own 0 b hb
    refine ⟨o1, o2, ?_⟩
    rcases hr.may 0 b hb with m1 | m1 | ⟨K, m1, m2, _⟩
    · exact absurd m1 (by simp only; omega)
    · exact m1
    · simp [mk, up] at m1; subst m1; cases m2.1
  have hone : ∀ q v, q < es.n * z → cur[q]? = some v → v.oneCell' = true := fun q v hq hv' => by
    rcases Nat.eq_zero_or_pos z with hz0 | hz0
    · rw [hz0] at hq; simp at hq
    have hk : q / z < es.n := by rw [Nat.div_lt_iff_lt_mul hz0]; exact hq
    have hrow := Rows.l_eq es hk
    have hl := h7 _ _ hrow
    have ho : q % z < (es.f (q / z)).length := by rw [hl]; exact Nat.mod_lt _ hz0
    have e1 := h8 _ _ (q % z) hrow ho
    rw [Nat.div_add_mod' q z] at e1
    rw [e1] at hv'; cases hv'
    exact (h9 _ _ (q % z) _ hrow (List.getElem?_eq_getElem ho)).one
  unfold CallsTo
  rw [hent]
  rw [hargs]
  refine Calls.mono (hc w g es.n cap i j cur h1 h2 h3 h4 hij hj hone) fun ed w' ⟨d1, cur', d2, d3, d4, d5, d6⟩ => ⟨_, d1, _, rfl, ?_⟩
  rw [← hargs]
  refine rel_ret hr (N := N0 0) ?_ (fun b hb => ?_) (Fr.oth d6 (hown g h5).2.2)
  · have hG : ∀ {k o : Nat} {row : List CV} {x : CV}, es.l[k]? = some row → row[o]? = some x → Rep P w' I x (us k o) (G k o) := fun {k o row x} hk ho =>
      (h9 k row o x hk ho).frame (fun b hb => by
        rcases hb with hb | hb
        · exact d6.block b (hr.ro b hb) (by rintro rfl; exact h6 hb)
        · obtain ⟨g1, g2⟩ := h10 k o b hb
          exact d6.block b (hown b g1).1 g2)
    rw [show es.n - (j - i) = (delR es i j).n from rfl]
    refine .ow (fun k o => us (if k < i then k else k + (j - i)) o) (fun k o => G (if k < i then k else k + (j - i)) o) d2 (by rw [d3, h2, hz]) (by simp only [delR]; omega) h4 h5 h6 (fun k row hk => ?_) (fun k row o hk ho => ?_) (fun k row o x hk ho => ?_) (fun k o b hb => h10 _ _ _ hb) (fun k o k' o' b hb hb' => ?_)
    · rw [hz]; exact h7 _ _ (delR_l es hij hj hk).2
    · rw [hz]
      obtain ⟨hlt, hk⟩ := delR_l es hij hj hk
      have e1 := h8 _ _ o hk ho
      have hl := h7 _ _ hk
      have hoz : o < z := by omega
      by_cases hki : k < i
      · simp only [hki, if_true] at e1 ⊢
        rw [d4 _ (by have : (k + 1) * z ≤ i * z := Nat.mul_le_mul_right z hki; rw [Nat.succ_mul] at this; omega)]
        exact e1
      · simp only [hki, if_false] at e1 ⊢
        rw [d5 _ (by have : i * z ≤ k * z := Nat.mul_le_mul_right z (by omega); omega) (by have : (k + 1) * z ≤ (es.n - (j - i)) * z := Nat.mul_le_mul_right z hlt; rw [Nat.succ_mul] at this; omega)]
        rw [show k * z + o + (j - i) * z = (k + (j - i)) * z + o by rw [Nat.add_mul]; omega]
        exact e1
    · exact hG (delR_l es hij hj hk).2 ho
    · obtain ⟨q1, q2⟩ := h11 _ _ _ _ b hb hb'
      refine ⟨?_, q2⟩
      split at q1 <;> split at q1 <;> omega
  · obtain ⟨o1, o2, o3⟩ := hown b hb
    exact ⟨Nat.lt_of_lt_of_le o1 d6.size, o2, .inr o3⟩
/-- The cells of the first n rows, as a list. -/
def cellsL (cur : Array Value) (m : Nat) : List Value := (List.range m).map fun q => cur.getD q undef
theorem cellsL_at {cur : Array Value} {m q : Nat} (hq : q < m) (hm : m ≤ cur.size) : (cellsL cur m)[q]? = cur[q]? := by
  simp [cellsL, List.getElem?_range hq, Array.getD_eq_getD_getElem?, show q < cur.size by omega]
theorem cellsL_len (cur : Array Value) (m : Nat) : (cellsL cur m).length = m := by simp [cellsL]
theorem mid_at {olds news : List Value} {n i z k o : Nat} (hl : olds.length = n * z) (hn : news.length = z) (hi : i ≤ n) (hk : k < n + 1) (ho : o < z) :
    (olds.take (i * z) ++ news ++ olds.drop (i * z))[k * z + o]? = if k < i then olds[k * z + o]? else if k = i then news[o]? else olds[(k - 1) * z + o]? := by
  have hiz : i * z ≤ n * z := Nat.mul_le_mul_right z hi
  have ht : (olds.take (i * z)).length = i * z := by rw [List.length_take, hl]; omega
  have htn : (olds.take (i * z) ++ news).length = i * z + z := by rw [List.length_append, ht, hn]
  by_cases h1 : k < i
  · have : (k + 1) * z ≤ i * z := Nat.mul_le_mul_right z h1
    rw [Nat.succ_mul] at this
    rw [if_pos h1, List.getElem?_append_left (by omega), List.getElem?_append_left (by omega), List.getElem?_take, if_pos (by omega)]
  · rw [if_neg h1]
    by_cases h2 : k = i
    · subst h2
      rw [if_pos rfl, List.getElem?_append_left (by omega), List.getElem?_append_right (by omega), ht, Nat.add_sub_cancel_left]
    · rw [if_neg h2]
      obtain ⟨d, rfl⟩ : ∃ d, k = i + 1 + d := ⟨k - (i + 1), by omega⟩
      have e1 : (i + 1 + d) * z + o = i * z + z + (d * z + o) := by rw [Nat.add_mul, Nat.add_mul, Nat.one_mul]; omega
      have e2 : (i + 1 + d - 1) * z + o = i * z + (d * z + o) := by rw [show i + 1 + d - 1 = i + d by omega, Nat.add_mul]; omega
      rw [List.getElem?_append_right (by rw [htn]; omega), htn, e1, Nat.add_sub_cancel_left, List.getElem?_drop, e2]
theorem ins_fun (hc : InsCall P f e z) (hz : P.cellsOf e = z) (hz0 : 0 < z) (hent : ∀ args w, (callFunc f args).run P w = .ok (.enter f args) w) (es : Rows CV) (i : Nat) (row : List CV) (hi : i ≤ es.n) (hn : es.n ≤ 1000) :
    FunOK P f 3 [] [(0, kc (.ow e es)), (1, kc (.n .i64 i)), (2, kc (.ow e (raw [row])))] (· = [(3, kc (.ow e (insR es i row)))]) := by
  intro F0 I0 args w hs ⟨I, U, B, F, hr⟩
  obtain ⟨_, r0, ⟨N0, n0, _, f0⟩, _⟩ := hr.key 0 (kc (.ow e es)) (by simp [mk, up])
  obtain ⟨_, r1, ⟨N1, n1, _⟩, _⟩ := hr.key 1 (kc (.n .i64 i)) (by simp [mk, up])
  obtain ⟨_, r2, ⟨N2, n2, _, f2⟩, _⟩ := hr.key 2 (kc (.ow e (raw [row]))) (by simp [mk, up])
  have a0 : args.getD 0 undef = U 0 0 := r0.2.2
  have a1 : args.getD 1 undef = .int .i64 i := by rw [show args.getD 1 undef = U 1 0 from r1.2.2]; exact rep_n (n1 0 _ rfl)
  have a2 : args.getD 2 undef = U 2 0 := r2.2.2
  have hrep : Rep P w I (.ow e es) (U 0 0) (N0 0) := n0 0 _ rfl
  have hrep2 : Rep P w I (.ow e (raw [row])) (U 2 0) (N2 0) := n2 0 _ rfl
  have hown : ∀ t, t = 0 ∨ t = 2 → ∀ b, F t b → b < w.heap.size ∧ ¬ I b ∧ ∀ q, F0 b q := fun t ht b hb => by
    obtain ⟨o1, o2⟩ := hr.own t b hb
    refine ⟨o1, o2, ?_⟩
    rcases hr.may t b hb with m1 | m1 | ⟨K, m1, m2, _⟩
    · exact absurd m1 (by simp only; omega)
    · exact m1
    · rcases ht with rfl | rfl <;> (simp [mk, up] at m1; subst m1; cases m2.1)
  rcases Rep.ow_inv hrep2 with ⟨_, h0⟩ | ⟨h, vc, hcur, us2, G2, hv2, p1, p2, p3, p4, p5, p6, p7, p8, p9, p10, p11⟩
  · simp [raw] at h0
  have hrow : (raw [row]).l[0]? = some row := by rw [raw_l]; rfl
  have hrl := p7 0 row hrow
  rw [hz] at hrl p2
  have hnews : ∀ q, q < z → hcur[q]? = (cellsL hcur z)[q]? := fun q hq => by
    have := p8 0 row q hrow (by omega)
    rw [Nat.zero_mul, Nat.zero_add] at this
    simp [cellsL, List.getElem?_range hq, Array.getD_eq_getD_getElem?, this]
  have hnew1 : ∀ v ∈ cellsL hcur z, v.oneCell' = true := fun v hv => by
    obtain ⟨q, hq⟩ := List.getElem?_of_mem hv
    have hlt : q < z := by have := (List.getElem?_eq_some_iff.1 hq).1; rwa [cellsL_len] at this
    rw [← hnews q hlt] at hq
    have := p8 0 row q hrow (by omega)
    rw [Nat.zero_mul, Nat.zero_add, hq] at this
    cases this
    exact (p9 0 row q _ hrow (List.getElem?_eq_getElem (by omega))).one
  have fh : F 2 h := (f2 0 h p5).1
  -- the slice that takes it
  obtain ⟨A, cap, cur, us, G, hv, hA0, hA, hcap, hcap2, h7, h8, h9, h10, h11⟩ : ∃ (A : Option Nat) (cap : Nat) (cur : Array Value) (us : Nat → Nat → Value) (G : Nat → Nat → FP), U 0 0 = .slice (A.map fun g => ⟨g, 0, none⟩) es.n cap ∧ (A = none → es.n = 0 ∧ cap = 0) ∧
      (∀ g, A = some g → w.heap[g]? = some (.cells cur e (0, 0)) ∧ cur.size = cap * z ∧ N0 0 g ∧ ¬ I g) ∧ es.n ≤ cap ∧ cap ≤ maxLen ∧ (∀ (k : Nat) (row : List CV), es.l[k]? = some row → row.length = z) ∧
      (∀ (k : Nat) (row : List CV) (o : Nat), es.l[k]? = some row → o < row.length → cur[k * z + o]? = some (us k o)) ∧ (∀ (k : Nat) (row : List CV) (o : Nat) (x : CV), es.l[k]? = some row → row[o]? = some x → Rep P w I x (us k o) (G k o)) ∧
      (∀ k o b, G k o b → N0 0 b ∧ A ≠ some b) ∧ (∀ k o k' o' b, G k o b → G k' o' b → k = k' ∧ o = o') := by
    rcases Rep.ow_inv hrep with ⟨e0, h0⟩ | ⟨g, cap, cur, us, G, hv, h1, h2, h3, h4, h5, h6, h7, h8, h9, h10, h11⟩
    · have hl : es.l = [] := Rows.l_nil h0
      exact ⟨none, 0, #[], fun _ _ => undef, fun _ _ => FP.none, by rw [e0, h0]; rfl, fun _ => ⟨h0, rfl⟩, fun g hg => (by cases hg), by omega, by unfold maxLen; omega, fun k row hk => by simp [hl] at hk, fun k row o hk => by simp [hl] at hk, fun k row o x hk => by simp [hl] at hk, fun _ _ _ h => h.elim, fun _ _ _ _ _ h => h.elim⟩
    · rw [hz] at h2 h7 h8
      exact ⟨some g, cap, cur, us, G, hv, fun h => (by cases h), fun g' hg => by cases hg; exact ⟨h1, h2, h5, h6⟩, h3, h4, h7, h8, h9, fun k o b hb => ⟨(h10 k o b hb).1, fun h => (h10 k o b hb).2 (by cases h; rfl)⟩, h11⟩
  have hcs : A ≠ none → es.n * z ≤ cur.size := fun hne => by
    cases A with
    | none => exact absurd rfl hne
    | some g => rw [(hA g rfl).2.1]; exact Nat.mul_le_mul_right z hcap
  obtain ⟨olds, holds, holdl⟩ : ∃ olds : List Value, (∀ q, q < es.n * z → cur[q]? = olds[q]?) ∧ olds.length = es.n * z := by
    refine ⟨cellsL cur (es.n * z), fun q hq => ?_, cellsL_len _ _⟩
    cases A with
    | none => rw [(hA0 rfl).1] at hq; simp at hq
    | some g => exact (cellsL_at hq (hcs (by simp))).symm
  have hat : ∀ {k o : Nat} {r : List CV}, es.l[k]? = some r → o < r.length → olds[k * z + o]? = some (us k o) := fun {k o r} hk ho => by
    have hkn := (Rows.l_lt hk).1
    have hl := h7 k r hk
    have : (k + 1) * z ≤ es.n * z := Nat.mul_le_mul_right z hkn
    rw [Nat.succ_mul] at this
    rw [← holds _ (by omega)]
    exact h8 k r o hk ho
  have hone : ∀ v ∈ olds, v.oneCell' = true := fun v hv' => by
    obtain ⟨q, hq⟩ := List.getElem?_of_mem hv'
    have hlt : q < es.n * z := by have := (List.getElem?_eq_some_iff.1 hq).1; rwa [holdl] at this
    have hk : q / z < es.n := by rw [Nat.div_lt_iff_lt_mul hz0]; exact hlt
    have hrow' := Rows.l_eq es hk
    have ho : q % z < (es.f (q / z)).length := by rw [h7 _ _ hrow']; exact Nat.mod_lt _ hz0
    have e1 := hat hrow' ho
    rw [Nat.div_add_mod' q z, hq] at e1
    cases e1
    exact (h9 _ _ (q % z) _ hrow' (List.getElem?_eq_getElem ho)).one
  have hgh : ∀ g, A = some g → g ≠ h := fun g hg he => by
    subst he
    have := hr.dis _ _ _ (f0 0 g (hA g hg).2.2.1).1 fh
    omega
  have hargs : args = #[.slice (A.map fun g => ⟨g, 0, none⟩) es.n cap, .int .i64 i, .slice (some ⟨h, 0, none⟩) 1 vc] := by
    rw [arr3 hs, a0, a1, a2, hv, hv2]; rfl
  unfold CallsTo
  rw [hent, hargs]
  refine Calls.mono (hc w A es.n cap i h vc olds (cellsL hcur z) hi hcap hcap2 hn holdl (cellsL_len _ _) hone hnew1 hA0 (fun g hg => ⟨hgh g hg, cur, (hA g hg).1, (hA g hg).2.1, holds⟩) ⟨hcur, p1, hnews⟩) fun ed w' ⟨g', c', cur', d1, d2, d3, d4, d5, d6, d7, d8, d9, d10, d11, d12⟩ => ⟨_, d1, _, rfl, ?_⟩
  rw [← hargs]
  have ob : ∀ t, t = 0 ∨ t = 2 → ∀ b, F t b → b < w.heap.size ∧ ¬ I b ∧ ∀ q, F0 b q := hown
  have hg' : ¬ I g' ∧ (w.heap.size ≤ g' ∨ ∀ q, F0 g' q) := by
    rcases d7 with h1 | h1
    · obtain ⟨_, _, q1, q2⟩ := hA g' h1
      exact ⟨q2, .inr (ob 0 (.inl rfl) g' (f0 0 g' q1).1).2.2⟩
    · exact ⟨fun hI => absurd (hr.ro g' hI) (by omega), .inl h1⟩
  have hlt' : g' < w'.heap.size := (Array.getElem?_eq_some_iff.1 d2).1
  refine rel_ret hr (N := fun b => b = g' ∨ N0 0 b ∨ N2 0 b) ?_ (fun b hb => ?_) ⟨d9, d10, d11, d12, fun b hb hnF => d8 b hb (fun hAb => hnF 0 ((ob 0 (.inl rfl) b (f0 0 b (hA b hAb).2.2.1).1).2.2 0)), fun b cs e' fr hnF hb => ?_⟩
  · have same : ∀ {x : CV} {u : Value} {N : FP}, Rep P w I x u N → (∀ b, N b → (N0 0 b ∧ A ≠ some b) ∨ N2 0 b) → Rep P w' I x u N := fun {x u N} hx hN => hx.frame (fun b hb => by
      rcases hb with hb | hb
      · exact d8 b (hr.ro b hb) (fun hAb => (hA b hAb).2.2.2 hb)
      · rcases hN b hb with ⟨q1, q2⟩ | q1
        · exact d8 b (ob 0 (.inl rfl) b (f0 0 b q1).1).1 q2
        · refine d8 b (ob 2 (.inr rfl) b (f2 0 b q1).1).1 (fun hAb => ?_)
          have := hr.dis _ _ _ (f0 0 b (hA b hAb).2.2.1).1 (f2 0 b q1).1
          omega)
    have hGg : ∀ b, (N0 0 b ∧ A ≠ some b) ∨ N2 0 b → b ≠ g' := fun b hb he => by
      subst he
      rcases d7 with h1 | h1
      · rcases hb with ⟨_, q⟩ | q
        · exact q h1
        · have := hr.dis _ _ _ (f0 0 b (hA b h1).2.2.1).1 (f2 0 b q).1; omega
      · rcases hb with ⟨q, _⟩ | q
        · have := (ob 0 (.inl rfl) b (f0 0 b q).1).1; omega
        · have := (ob 2 (.inr rfl) b (f2 0 b q).1).1; omega
    rw [show es.n + 1 = (insR es i row).n from rfl]
    refine .ow (fun k o => if k < i then us k o else if k = i then us2 0 o else us (k - 1) o) (fun k o => if k < i then G k o else if k = i then G2 0 o else G (k - 1) o) d2 (by rw [d3, hz]) (by simp only [insR]; exact d4) d5 (.inl rfl) hg'.1 (fun k r hk => ?_) (fun k r o hk ho => ?_) (fun k r o x hk ho => ?_) (fun k o b hb => ?_) (fun k o k' o' b hb hb' => ?_)
    · rw [hz]
      obtain ⟨_, ⟨_, q⟩ | ⟨_, rfl⟩ | ⟨_, q⟩⟩ := insR_l es hi hk
      · exact h7 _ _ q
      · exact hrl
      · exact h7 _ _ q
    · rw [hz]
      obtain ⟨hlt, q⟩ := insR_l es hi hk
      have hoz : o < z := by
        rcases q with ⟨_, q⟩ | ⟨_, rfl⟩ | ⟨_, q⟩
        · rw [← h7 _ _ q]; exact ho
        · rw [← hrl]; exact ho
        · rw [← h7 _ _ q]; exact ho
      rw [d6 _ (by have : (k + 1) * z ≤ (es.n + 1) * z := Nat.mul_le_mul_right z hlt; rw [Nat.succ_mul] at this; omega), mid_at holdl (cellsL_len _ _) hi hlt hoz]
      rcases q with ⟨q0, q⟩ | ⟨rfl, rfl⟩ | ⟨q0, q⟩
      · simp only [q0, if_true]; exact hat q ho
      · simp only [Nat.lt_irrefl, if_false, if_true]
        rw [← hnews o hoz]
        have := p8 0 r o hrow ho
        rwa [Nat.zero_mul, Nat.zero_add] at this
      · simp only [show ¬ k < i by omega, show ¬ k = i by omega, if_false]; exact hat q ho
    · obtain ⟨hlt, q⟩ := insR_l es hi hk
      rcases q with ⟨q0, q⟩ | ⟨rfl, rfl⟩ | ⟨q0, q⟩
      · simp only [q0, if_true]; exact same (h9 _ _ _ _ q ho) (fun b hb => .inl (h10 _ _ _ hb))
      · simp only [Nat.lt_irrefl, if_false, if_true]; exact same (p9 0 _ _ _ hrow ho) (fun b hb => .inr (p10 _ _ _ hb).1)
      · simp only [show ¬ k < i by omega, show ¬ k = i by omega, if_false]; exact same (h9 _ _ _ _ q ho) (fun b hb => .inl (h10 _ _ _ hb))
    · have : (N0 0 b ∧ A ≠ some b) ∨ N2 0 b := by
        split at hb
        · exact .inl (h10 _ _ _ hb)
        · split at hb
          · exact .inr (p10 _ _ _ hb).1
          · exact .inl (h10 _ _ _ hb)
      exact ⟨.inr (this.imp (·.1) id), hGg b this⟩
    · have no : ∀ {k1 o1 o2 : Nat}, G k1 o1 b → G2 0 o2 b → False := fun {k1 o1 o2} q1 q2 => by
        have := hr.dis _ _ _ (f0 0 b (h10 _ _ _ q1).1).1 (f2 0 b (p10 _ _ _ q2).1).1; omega

      split at hb
      · split at hb'
        · exact h11 _ _ _ _ _ hb hb'
        · split at hb'
          · exact (no hb hb').elim
          · have := h11 _ _ _ _ _ hb hb'; omega
      · split at hb
        · split at hb'
          · exact (no hb' hb).elim
          · split at hb'
            · have := p11 _ _ _ _ _ hb hb'; omega
            · exact (no hb' hb).elim
        · split at hb'
          · have := h11 _ _ _ _ _ hb hb'; omega
          · split at hb'
            · exact (no hb hb').elim
            · have := h11 _ _ _ _ _ hb hb'; omega
  · rcases hb with rfl | hb | hb
    · exact ⟨hlt', hg'⟩
    · obtain ⟨q1, q2, q3⟩ := ob 0 (.inl rfl) b (f0 0 b hb).1
      exact ⟨Nat.lt_of_lt_of_le q1 d12, q2, .inr q3⟩
    · obtain ⟨q1, q2, q3⟩ := ob 2 (.inr rfl) b (f2 0 b hb).1
      exact ⟨Nat.lt_of_lt_of_le q1 d12, q2, .inr q3⟩
  · have hlt : b < w.heap.size := (Array.getElem?_eq_some_iff.1 hb).1
    exact ⟨cs, (d8 b hlt (fun hAb => hnF (ob 0 (.inl rfl) b (f0 0 b (hA b hAb).2.2.1).1).2.2)).trans hb, fun _ _ => rfl⟩
end
end Go.Proofs.AI

namespace Go.Proofs.AI
open Go.RowKit Go.Proofs Go.Lib Go.Shelf
set_option linter.unusedVariables false
set_option linter.unusedSimpArgs false
set_option maxRecDepth 100000
theorem isAgg_of {P : Program} {t : TypeId} {d : TypeDesc} (h : P.underlying t = some d) (w : World) : (isAgg t).run P w = .ok d.isRow w := by
  cases d <;> simp [isAgg, run_underlying h, TypeDesc.isRow]
theorem sizeOf_of {P : Program} {t : TypeId} {i : TypeInfo} (h : P.info? t = some i) (w : World) : (Go.sizeOf t).run P w = .ok i.size w := by
  simp [Go.sizeOf, typeInfo, h, Sem.run]
theorem zero_of {P : Program} {t : TypeId} {i : TypeInfo} {z : Value} (h : P.info? t = some i) (hz : i.zero = some z) (w : World) : (zeroValue t).run P w = .ok z w := by
  simp [zeroValue, typeInfo, h, hz, Sem.run]
theorem item_info : ∃ i : TypeInfo, Tryz.prog.info? 75 = some i ∧ i.size = 2 ∧ i.bytes = 40 ∧ i.zero = some (.agg #[.string ⟨#[]⟩, .slice none 0 0]) := ⟨_, rfl, rfl, rfl, rfl⟩
set_option maxHeartbeats 4000000 in
theorem del_item : DelCall Tryz.prog 96 75 2 := by
  intro w g n cap i j cur hg hcur hn hcap hij hj hone
  have mixed : Tryz.prog.follows .mixedOrders = true := rfl
  obtain ⟨i0, hi0, hzs, hzb, hzz⟩ := item_info
  have t33 : Tryz.prog.underlying 33 = some (.slice 75) := rfl
  have t3 : Tryz.prog.underlying 3 = some (.int .i64) := rfl
  have t4 : Tryz.prog.underlying 4 = some .bool := rfl
  have a33 := isAgg_of t33
  have a3 := isAgg_of t3
  have a4 := isAgg_of t4
  simp only [TypeDesc.isRow] at a33 a3 a4
  have z75 : ∀ w, (Go.sizeOf 75).run Tryz.prog w = .ok 2 w := fun w => by rw [sizeOf_of hi0, hzs]
  obtain ⟨i33, e33, s33, y33⟩ : ∃ i : TypeInfo, Tryz.prog.info? 33 = some i ∧ i.size = 1 ∧ i.zero = some (.slice none 0 0) := ⟨_, rfl, rfl, rfl⟩
  obtain ⟨i3, e3, q3, y3⟩ : ∃ i : TypeInfo, Tryz.prog.info? 3 = some i ∧ i.size = 1 ∧ i.zero = some (.int .i64 0) := ⟨_, rfl, rfl, rfl⟩
  obtain ⟨i4, e4, q4, y4⟩ : ∃ i : TypeInfo, Tryz.prog.info? 4 = some i ∧ i.size = 1 ∧ i.zero = some (.bool false) := ⟨_, rfl, rfl, rfl⟩
  have z33 : ∀ w, (Go.sizeOf 33).run Tryz.prog w = .ok 1 w := fun w => by rw [sizeOf_of e33, s33]
  have z3 : ∀ w, (Go.sizeOf 3).run Tryz.prog w = .ok 1 w := fun w => by rw [sizeOf_of e3, q3]
  have z4 : ∀ w, (Go.sizeOf 4).run Tryz.prog w = .ok 1 w := fun w => by rw [sizeOf_of e4, q4]
  have v33 := zero_of e33 y33
  have v3 := zero_of e3 y3
  have v4 := zero_of e4 y4
  have v75 := zero_of hi0 hzz
  have hm : cap ≤ 9223372036854775807 := by unfold maxLen at hcap; omega
  -- the cells that are moved to the left
  obtain ⟨news, hnl, hnews⟩ : ∃ news : List Value, news.length = (n - j) * 2 ∧ ∀ t, t < (n - j) * 2 → news[t]? = cur[j * 2 + t]? := by
    refine ⟨(List.range ((n - j) * 2)).map fun t => cur.getD (j * 2 + t) undef, by simp, fun t ht => ?_⟩
    rw [List.getElem?_map, List.getElem?_range ht]
    simp [Array.getD_eq_getD_getElem?, show j * 2 + t < cur.size by omega]
  obtain ⟨A, hA, hsrc⟩ : ∃ A : Addr, (if cap = j then some (⟨g, 0, none⟩ : Addr) else some ⟨g, j * 2, none⟩) = some A ∧ Hid (∀ t u, news[t]? = some u → w.drew.cell? (A.add t) = some u) := by
    by_cases h : cap = j
    · refine ⟨⟨g, 0, none⟩, by simp [h], fun t u hu => ?_⟩
      have ht := (List.getElem?_eq_some_iff.1 hu).1
      rw [hnl] at ht
      omega
    · refine ⟨⟨g, j * 2, none⟩, by simp [h], fun t u hu => ?_⟩
      have ht := (List.getElem?_eq_some_iff.1 hu).1
      rw [hnl] at ht
      rw [hnews t ht] at hu
      rw [Addr.add_lit]
      exact (cell_of (w := w) hg _).trans hu
  have s1 : Hid (news.length = (n - j) * 2) := hnl
  have s2 : Hid (∀ u ∈ news, u.oneCell' = true) := by
    intro u hu
    obtain ⟨t, ht⟩ := List.getElem?_of_mem hu
    have hlt := (List.getElem?_eq_some_iff.1 ht).1
    rw [hnl] at hlt
    rw [hnews t hlt] at ht
    exact hone _ u (by omega) ht
  have s3 : Hid (∀ t, t < news.length → (w.drew.cell? ⟨g, 0 + i * 2 + t, none⟩).isSome = true ∧ w.drew.frozen? ⟨g, 0 + i * 2 + t, none⟩ = false) := by
    intro t ht
    rw [hnl] at ht
    refine ⟨?_, frozen_of (w := w.drew) hg _⟩
    rw [cell_of (w := w.drew) hg, Array.getElem?_eq_getElem (by omega)]; rfl
  obtain ⟨W1, hW1⟩ : ∃ W1, W1 = w.drew.setCells g (0 + i * 2) news := ⟨_, rfl⟩
  obtain ⟨cur1, c1, c2, c3, c4⟩ := setCells_heap g news (0 + i * 2) w.drew (cur := cur) (e := 75) (fr := (0, 0)) hg
  have o1 : Oth w W1 g := by rw [hW1]; exact (Oth.drew w g).trans (oth_setCells g _ _ _)
  rw [← hW1] at c1
  have hclr : ∃ zs : List Value, (Builtin.clear_ #[33] 0 #[.slice (some ⟨g, (i + (n - j)) * 2, none⟩) (n - (i + (n - j))) (cap - (i + (n - j)))]).run Tryz.prog W1 = .ok (.tuple #[]) (W1.setCells g ((i + (n - j)) * 2) zs) ∧ zs.length = (n - (i + (n - j))) * 2 :=
    run_clear_any W1 33 75 0 _ t33 v75 (by decide) g ((i + (n - j)) * 2) _ _ (by omega) (fun t ht => by
      have ht : t < (n - (i + (n - j))) * 2 := ht
      rw [cell_of c1, Array.getElem?_eq_getElem (by omega)]; rfl) (fun t ht => frozen_of c1 _)
  obtain ⟨zs, hz1, hzl⟩ := hclr
  have hcl : ∀ ty, (Builtin.clear_ #[33] ty #[.slice (some ⟨g, (i + (n - j)) * 2, none⟩) (n - (i + (n - j))) (cap - (i + (n - j)))]).run Tryz.prog W1 = .ok (.tuple #[]) (W1.setCells g ((i + (n - j)) * 2) zs) := fun ty => hz1
  obtain ⟨W2, hW2⟩ : ∃ W2, W2 = W1.setCells g ((i + (n - j)) * 2) zs := ⟨_, rfl⟩
  rw [← hW2] at hcl
  obtain ⟨cur2, d1, d2, d3, d4⟩ := setCells_heap g zs ((i + (n - j)) * 2) W1 c1
  rw [← hW2] at d1
  have o2 : Oth w W2 g := by rw [hW2]; exact o1.trans (oth_setCells g _ _ _)
  have fin : Hid (∃ cur' : Array Value, W2.heap[g]? = some (.cells cur' 75 (0, 0)) ∧ cur'.size = cur.size ∧ (∀ q, q < i * 2 → cur'[q]? = cur[q]?) ∧ (∀ q, i * 2 ≤ q → q < (n - (j - i)) * 2 → cur'[q]? = cur[q + (j - i) * 2]?) ∧ Oth w W2 g) := by
    refine ⟨cur2, d1, by rw [d2, c2], fun q hq => ?_, fun q h1 h2 => ?_, o2⟩
    · rw [d3 q (by omega), c3 q (by omega)]
    · rw [d3 q (by omega)]
      obtain ⟨t, rfl⟩ : ∃ t, q = i * 2 + t := ⟨q - i * 2, by omega⟩
      have ht : t < (n - j) * 2 := by omega
      have hsome : cur[j * 2 + t]? = some (cur[j * 2 + t]'(by omega)) := Array.getElem?_eq_getElem _
      have := c4 t _ ((hnews t ht).trans hsome) (by omega)
      rw [show 0 + i * 2 + t = i * 2 + t by omega] at this
      rw [this, show i * 2 + t + (j - i) * 2 = j * 2 + t by omega, hsome]
  have hW : Hid (W1 = w.drew.setCells g (0 + i * 2) news) := hW1
  have hic : i ≤ cap := by omega
  have hjc : j ≤ cap := by omega
  have hne : ¬ ((i : Int) = (j : Int)) := by omega
  clear hW1 hW2 hz1 hnews hnl c1 c2 c3 c4 d1 d2 d3 d4 o1 o2 hone hzl hg
  go_enter Tryz.func96, Tryz.ntmps96
  go_wp2_with fail
  go_region_law_o (refine step_append_room rfl (.tmp 22) (.tmp 25) 33 rfl 75 i0 2 t33 hi0 hzs g 0 i cap (by simp [Act.eval, Act.put]) A (n - j) (cap - j) news (by simp [Act.eval, Act.put]) s1.out hsrc.out s2.out (by omega) s3.out ?_; rw [← hW.out])
  go_wp2
  go_ret
  exact ⟨by rw [show n - (j - i) = i + (n - j) by omega]; rfl, fin.out⟩
end Go.Proofs.AI
