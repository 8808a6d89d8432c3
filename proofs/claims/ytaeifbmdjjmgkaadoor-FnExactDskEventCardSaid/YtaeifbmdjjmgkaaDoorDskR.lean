/- What the reference makes of a line's word and numbers. Conditions: none. -/
import Derived.Test.YtaeifbmdjjmgkaaDoorDskL
import Derived.Test.YtaeifbmdjjmgkaaDoorWLast
import Derived.RegionTactic
import Derived.ChangeAlike
namespace Go.Proofs.YtaeifbmdjjmgkaaDoor
open Go.RowKit Go.Proofs.YtaeifbmdjjmgkaaDoorW.PrintWords
set_option linter.unusedVariables false
set_option linter.unusedSimpArgs false
set_option maxRecDepth 100000

/-- The event of a manner, its numbers those of a list. -/
def fillM (m : Man) (a : List Int) : Ev :=
  let f (o : Nat) : Int := match m.offs.findIdx? (fun x => x == o) with
    | some j => ix 0 a j
    | none => 0
  ⟨m.kind, ⟨m.op, f 2, f 3, f 4, f 5, f 6, f 7⟩, f 8, f 9, f 10⟩
def evZero : Ev := ⟨0, ⟨0, 0, 0, 0, 0, 0, 0⟩, 0, 0, 0⟩
/-- By word and how many numbers. -/
noncomputable def readEv (wd : ByteArray) (a : List Int) : Ev := match manners.find? (fun m => dec (m.word = wd ∧ m.offs.length = a.length)) with
  | some m => fillM m a
  | none => evZero
theorem key_inj {wd u : ByteArray} {n m : Nat} (hn : n ≤ 9) (hm : m ≤ 9) (h : wd ++ digB n = u ++ digB m) : wd = u ∧ n = m := by
  have h1 : wd.data.toList ++ [UInt8.ofNat (48 + n)] = u.data.toList ++ [UInt8.ofNat (48 + m)] := by
    have := congrArg (fun x : ByteArray => x.data.toList) h
    simpa [data_append, digB] using this
  have h2 := List.append_inj' h1 rfl
  have h3 : UInt8.ofNat (48 + n) = UInt8.ofNat (48 + m) := by simpa using h2.2
  have h4 := congrArg UInt8.toNat h3
  have a1 : (UInt8.ofNat (48 + n)).toNat = 48 + n := by simp only [UInt8.toNat_ofNat']; omega
  have a2 : (UInt8.ofNat (48 + m)).toNat = 48 + m := by simp only [UInt8.toNat_ofNat']; omega
  exact ⟨ba_eq h2.1, by omega⟩
theorem key_is {wd kd u : ByteArray} {n m : Nat} (hk : kd = digB (min 9 n)) (hm : m < 9) (l : List UInt8) (hl : l = (u ++ digB m).data.toList) : ((wd ++ kd).toList == l) = dec (u = wd ∧ m = n) := by
  subst hk hl
  by_cases h : u = wd ∧ m = n
  · rw [dec_true h, h.1, ← h.2, Nat.min_eq_right (by omega), ← ByteArray.toList_eq]
    exact beq_self_eq_true _
  · rw [dec_false h, beq_eq_false_iff_ne]
    intro e
    rw [ByteArray.toList_eq] at e
    have := key_inj (by omega) (by omega) (ba_eq e)
    refine h ⟨this.1.symm, ?_⟩
    have := this.2
    omega
theorem put11 {W w : World} {B t : Nat} {z0 z1 z2 z3 z4 z5 z6 z7 z8 z9 z10 v0 v1 v2 v3 v4 v5 v6 v7 v8 v9 v10 : Value} (h : W.heap[B]? = some (.cells #[z0, z1, z2, z3, z4, z5, z6, z7, z8, z9, z10] t (0, 0))) (hb : Below w.heap.size w W) (hg : w.heap.size ≤ B) :
    (((((((((((W.setCell ⟨B, 0, none⟩ v0).setCell ⟨B, 1, none⟩ v1).setCell ⟨B, 2, none⟩ v2).setCell ⟨B, 3, none⟩ v3).setCell ⟨B, 4, none⟩ v4).setCell ⟨B, 5, none⟩ v5).setCell ⟨B, 6, none⟩ v6).setCell ⟨B, 7, none⟩ v7).setCell ⟨B, 8, none⟩ v8).setCell ⟨B, 9, none⟩ v9).setCell ⟨B, 10, none⟩ v10).heap[B]? = some (.cells #[v0, v1, v2, v3, v4, v5, v6, v7, v8, v9, v10] t (0, 0)) ∧ Below w.heap.size w (((((((((((W.setCell ⟨B, 0, none⟩ v0).setCell ⟨B, 1, none⟩ v1).setCell ⟨B, 2, none⟩ v2).setCell ⟨B, 3, none⟩ v3).setCell ⟨B, 4, none⟩ v4).setCell ⟨B, 5, none⟩ v5).setCell ⟨B, 6, none⟩ v6).setCell ⟨B, 7, none⟩ v7).setCell ⟨B, 8, none⟩ v8).setCell ⟨B, 9, none⟩ v9).setCell ⟨B, 10, none⟩ v10) := by
  have h0 : (W.setCell ⟨B, 0, none⟩ v0).heap[B]? = some (.cells #[v0, z1, z2, z3, z4, z5, z6, z7, z8, z9, z10] t (0, 0)) := blk_put h 0 _ rfl
  have b0 : Below w.heap.size w (W.setCell ⟨B, 0, none⟩ v0) := below_set hb hg
  have h1 : ((W.setCell ⟨B, 0, none⟩ v0).setCell ⟨B, 1, none⟩ v1).heap[B]? = some (.cells #[v0, v1, z2, z3, z4, z5, z6, z7, z8, z9, z10] t (0, 0)) := blk_put h0 1 _ rfl
  have b1 : Below w.heap.size w ((W.setCell ⟨B, 0, none⟩ v0).setCell ⟨B, 1, none⟩ v1) := below_set b0 hg
  have h2 : (((W.setCell ⟨B, 0, none⟩ v0).setCell ⟨B, 1, none⟩ v1).setCell ⟨B, 2, none⟩ v2).heap[B]? = some (.cells #[v0, v1, v2, z3, z4, z5, z6, z7, z8, z9, z10] t (0, 0)) := blk_put h1 2 _ rfl
  have b2 : Below w.heap.size w (((W.setCell ⟨B, 0, none⟩ v0).setCell ⟨B, 1, none⟩ v1).setCell ⟨B, 2, none⟩ v2) := below_set b1 hg
  have h3 : ((((W.setCell ⟨B, 0, none⟩ v0).setCell ⟨B, 1, none⟩ v1).setCell ⟨B, 2, none⟩ v2).setCell ⟨B, 3, none⟩ v3).heap[B]? = some (.cells #[v0, v1, v2, v3, z4, z5, z6, z7, z8, z9, z10] t (0, 0)) := blk_put h2 3 _ rfl
  have b3 : Below w.heap.size w ((((W.setCell ⟨B, 0, none⟩ v0).setCell ⟨B, 1, none⟩ v1).setCell ⟨B, 2, none⟩ v2).setCell ⟨B, 3, none⟩ v3) := below_set b2 hg
  have h4 : (((((W.setCell ⟨B, 0, none⟩ v0).setCell ⟨B, 1, none⟩ v1).setCell ⟨B, 2, none⟩ v2).setCell ⟨B, 3, none⟩ v3).setCell ⟨B, 4, none⟩ v4).heap[B]? = some (.cells #[v0, v1, v2, v3, v4, z5, z6, z7, z8, z9, z10] t (0, 0)) := blk_put h3 4 _ rfl
  have b4 : Below w.heap.size w (((((W.setCell ⟨B, 0, none⟩ v0).setCell ⟨B, 1, none⟩ v1).setCell ⟨B, 2, none⟩ v2).setCell ⟨B, 3, none⟩ v3).setCell ⟨B, 4, none⟩ v4) := below_set b3 hg
  have h5 : ((((((W.setCell ⟨B, 0, none⟩ v0).setCell ⟨B, 1, none⟩ v1).setCell ⟨B, 2, none⟩ v2).setCell ⟨B, 3, none⟩ v3).setCell ⟨B, 4, none⟩ v4).setCell ⟨B, 5, none⟩ v5).heap[B]? = some (.cells #[v0, v1, v2, v3, v4, v5, z6, z7, z8, z9, z10] t (0, 0)) := blk_put h4 5 _ rfl
  have b5 : Below w.heap.size w ((((((W.setCell ⟨B, 0, none⟩ v0).setCell ⟨B, 1, none⟩ v1).setCell ⟨B, 2, none⟩ v2).setCell ⟨B, 3, none⟩ v3).setCell ⟨B, 4, none⟩ v4).setCell ⟨B, 5, none⟩ v5) := below_set b4 hg
  have h6 : (((((((W.setCell ⟨B, 0, none⟩ v0).setCell ⟨B, 1, none⟩ v1).setCell ⟨B, 2, none⟩ v2).setCell ⟨B, 3, none⟩ v3).setCell ⟨B, 4, none⟩ v4).setCell ⟨B, 5, none⟩ v5).setCell ⟨B, 6, none⟩ v6).heap[B]? = some (.cells #[v0, v1, v2, v3, v4, v5, v6, z7, z8, z9, z10] t (0, 0)) := blk_put h5 6 _ rfl
  have b6 : Below w.heap.size w (((((((W.setCell ⟨B, 0, none⟩ v0).setCell ⟨B, 1, none⟩ v1).setCell ⟨B, 2, none⟩ v2).setCell ⟨B, 3, none⟩ v3).setCell ⟨B, 4, none⟩ v4).setCell ⟨B, 5, none⟩ v5).setCell ⟨B, 6, none⟩ v6) := below_set b5 hg
  have h7 : ((((((((W.setCell ⟨B, 0, none⟩ v0).setCell ⟨B, 1, none⟩ v1).setCell ⟨B, 2, none⟩ v2).setCell ⟨B, 3, none⟩ v3).setCell ⟨B, 4, none⟩ v4).setCell ⟨B, 5, none⟩ v5).setCell ⟨B, 6, none⟩ v6).setCell ⟨B, 7, none⟩ v7).heap[B]? = some (.cells #[v0, v1, v2, v3, v4, v5, v6, v7, z8, z9, z10] t (0, 0)) := blk_put h6 7 _ rfl
  have b7 : Below w.heap.size w ((((((((W.setCell ⟨B, 0, none⟩ v0).setCell ⟨B, 1, none⟩ v1).setCell ⟨B, 2, none⟩ v2).setCell ⟨B, 3, none⟩ v3).setCell ⟨B, 4, none⟩ v4).setCell ⟨B, 5, none⟩ v5).setCell ⟨B, 6, none⟩ v6).setCell ⟨B, 7, none⟩ v7) := below_set b6 hg
  have h8 : (((((((((W.setCell ⟨B, 0, none⟩ v0).setCell ⟨B, 1, none⟩ v1).setCell ⟨B, 2, none⟩ v2).setCell ⟨B, 3, none⟩ v3).setCell ⟨B, 4, none⟩ v4).setCell ⟨B, 5, none⟩ v5).setCell ⟨B, 6, none⟩ v6).setCell ⟨B, 7, none⟩ v7).setCell ⟨B, 8, none⟩ v8).heap[B]? = some (.cells #[v0, v1, v2, v3, v4, v5, v6, v7, v8, z9, z10] t (0, 0)) := blk_put h7 8 _ rfl
  have b8 : Below w.heap.size w (((((((((W.setCell ⟨B, 0, none⟩ v0).setCell ⟨B, 1, none⟩ v1).setCell ⟨B, 2, none⟩ v2).setCell ⟨B, 3, none⟩ v3).setCell ⟨B, 4, none⟩ v4).setCell ⟨B, 5, none⟩ v5).setCell ⟨B, 6, none⟩ v6).setCell ⟨B, 7, none⟩ v7).setCell ⟨B, 8, none⟩ v8) := below_set b7 hg
  have h9 : ((((((((((W.setCell ⟨B, 0, none⟩ v0).setCell ⟨B, 1, none⟩ v1).setCell ⟨B, 2, none⟩ v2).setCell ⟨B, 3, none⟩ v3).setCell ⟨B, 4, none⟩ v4).setCell ⟨B, 5, none⟩ v5).setCell ⟨B, 6, none⟩ v6).setCell ⟨B, 7, none⟩ v7).setCell ⟨B, 8, none⟩ v8).setCell ⟨B, 9, none⟩ v9).heap[B]? = some (.cells #[v0, v1, v2, v3, v4, v5, v6, v7, v8, v9, z10] t (0, 0)) := blk_put h8 9 _ rfl
  have b9 : Below w.heap.size w ((((((((((W.setCell ⟨B, 0, none⟩ v0).setCell ⟨B, 1, none⟩ v1).setCell ⟨B, 2, none⟩ v2).setCell ⟨B, 3, none⟩ v3).setCell ⟨B, 4, none⟩ v4).setCell ⟨B, 5, none⟩ v5).setCell ⟨B, 6, none⟩ v6).setCell ⟨B, 7, none⟩ v7).setCell ⟨B, 8, none⟩ v8).setCell ⟨B, 9, none⟩ v9) := below_set b8 hg
  have h10 : (((((((((((W.setCell ⟨B, 0, none⟩ v0).setCell ⟨B, 1, none⟩ v1).setCell ⟨B, 2, none⟩ v2).setCell ⟨B, 3, none⟩ v3).setCell ⟨B, 4, none⟩ v4).setCell ⟨B, 5, none⟩ v5).setCell ⟨B, 6, none⟩ v6).setCell ⟨B, 7, none⟩ v7).setCell ⟨B, 8, none⟩ v8).setCell ⟨B, 9, none⟩ v9).setCell ⟨B, 10, none⟩ v10).heap[B]? = some (.cells #[v0, v1, v2, v3, v4, v5, v6, v7, v8, v9, v10] t (0, 0)) := blk_put h9 10 _ rfl
  have b10 : Below w.heap.size w (((((((((((W.setCell ⟨B, 0, none⟩ v0).setCell ⟨B, 1, none⟩ v1).setCell ⟨B, 2, none⟩ v2).setCell ⟨B, 3, none⟩ v3).setCell ⟨B, 4, none⟩ v4).setCell ⟨B, 5, none⟩ v5).setCell ⟨B, 6, none⟩ v6).setCell ⟨B, 7, none⟩ v7).setCell ⟨B, 8, none⟩ v8).setCell ⟨B, 9, none⟩ v9).setCell ⟨B, 10, none⟩ v10) := below_set b9 hg
  exact ⟨h10, b10⟩
theorem digitL_any (n : Nat) (hn : n < 9) (w : World) :
    Calls Tryd.prog 29 #[.int .i64 (n : Int)] w fun e w' => ∃ kd, e = .returned (.string kd) ∧ kd = digB (min 9 n) ∧ Below w.heap.size w w' :=
  (l3Digit_any n (by omega) w).mono fun _ _ ⟨h1, h2⟩ => ⟨_, h1, by rw [Nat.min_eq_right (by omega)], h2⟩
theorem digitA_any (n : Nat) (hn : n < 9) (w : World) :
    Calls Tryd.prog 29 #[.int .i64 (n : Int)] w fun e w' => ∃ kd, e = .returned (.string kd) ∧ kd = digB (min 9 n) ∧ Below w.heap.size w w' :=
  (l3Digit_any n (by omega) w).mono fun _ _ ⟨h1, h2⟩ => ⟨_, h1, by rw [Nat.min_eq_right (by omega)], h2⟩
theorem digitB_any (n : Nat) (hn : 9 ≤ n) (w : World) :
    Calls Tryd.prog 29 #[.int .i64 9] w fun e w' => ∃ kd, e = .returned (.string kd) ∧ kd = digB (min 9 n) ∧ Below w.heap.size w w' :=
  (l3Digit_any 9 (by omega) w).mono fun _ _ ⟨h1, h2⟩ => ⟨_, h1, by rw [Nat.min_eq_left (by omega)], h2⟩

set_option maxHeartbeats 4000000 in
theorem l9Read_in (wd : ByteArray) (hw : wd.size ≤ 4294967280) (a : List Int) (A : Option Addr) (c : Nat) (w : World) (hA : kInt.C w A a.length a) (h0 : dec ((⟨#[105, 110]⟩ : ByteArray) = wd ∧ 2 = a.length) = true) :
    Calls Tryd.prog 24 #[.string wd, .slice A a.length c] w fun e w' => e = .returned (.agg #[.int .i64 1, .int .i64 1, .int .i64 (ix 0 a 0), .int .i64 (ix 0 a 1), .int .i64 0, .int .i64 0, .int .i64 0, .int .i64 0, .int .i64 0, .int .i64 0, .int .i64 0]) ∧ Below w.heap.size w w' := by
  have hlen : a.length = 2 := (dec_iff.1 h0).2.symm
  have HH0 : Hid (dec ((⟨#[105, 110]⟩ : ByteArray) = wd ∧ 2 = 2) = true) := Lib.hid (hlen ▸ h0)
  rw [hlen] at hA ⊢
  have HA := Lib.hid hA
  clear hA hlen h0
  have HD := Lib.hid (fun W => digitL_any 2 (by decide) W)
  go_enter Tryd.func24, Tryd.ntmps24
  go_wp2_with (first | ((with_reducible refine gate_dst (N := 4) rfl ?_); refine box_event ?hg (N := 4) ?hd (cs := #[.int .i64 0, .int .i64 0, .int .i64 0, .int .i64 0, .int .i64 0, .int .i64 0, .int .i64 0, .int .i64 0, .int .i64 0, .int .i64 0, .int .i64 0]) (t := 29) ?hr ?_; (case hd => rfl); (case hg => rfl); (case hr => first | (go_simp; done) | (go_simp; rfl)); intro B hg w3 hbox hb; have HG := Lib.hid (Nat.le_of_eq hg.symm : w.heap.size ≤ B); have HX := Lib.hid hbox; have HB := Lib.hid hb; clear hbox hb hg) | (go_at_call 29; refine (HD.out _).mono ?_; rintro e w4 ⟨kd, rfl, hkd, hb⟩; have hA4 := Kd.C_below HA.out (below_step HB.out hb); obtain ⟨ad0, hA0, q0⟩ := at_int hA4 0 (by decide); obtain ⟨ad1, hA1, q1⟩ := at_int hA4 1 (by decide); subst hA0; obtain rfl := Option.some.inj hA1; have p0 : w4.cell? ad0 = some (.int .i64 (ix 0 a 0)) := q0; have p1 : w4.cell? ⟨ad0.block, ad0.off + 1, none⟩ = some (.int .i64 (ix 0 a 1)) := q1; clear q0 q1; have t0 := (key_is (wd := wd) (u := ⟨#[105, 110]⟩) (m := 2) (n := 2) hkd (by decide) [105, 110, 50] rfl).trans (HH0.out); have hsz : kd.size = 1 := (by rw [hkd]; rfl); have HX4 := Lib.hid (blk_below HX.out hb); have HB4 := Lib.hid (below_step HB.out hb); clear hb HX HB hkd hA4; have HX := HX4; have HB := HB4; clear HX4 HB4; have c0 := (blk_cell HX.out 0).trans (rfl : _ = some (Value.int .i64 0)); have f0 := blk_frozen HX.out 0; have c1 := (blk_cell HX.out 1).trans (rfl : _ = some (Value.int .i64 0)); have f1 := blk_frozen HX.out 1; have c2 := (blk_cell HX.out 2).trans (rfl : _ = some (Value.int .i64 0)); have f2 := blk_frozen HX.out 2; have c3 := (blk_cell HX.out 3).trans (rfl : _ = some (Value.int .i64 0)); have f3 := blk_frozen HX.out 3; have c4 := (blk_cell HX.out 4).trans (rfl : _ = some (Value.int .i64 0)); have f4 := blk_frozen HX.out 4; have c5 := (blk_cell HX.out 5).trans (rfl : _ = some (Value.int .i64 0)); have f5 := blk_frozen HX.out 5; have c6 := (blk_cell HX.out 6).trans (rfl : _ = some (Value.int .i64 0)); have f6 := blk_frozen HX.out 6; have c7 := (blk_cell HX.out 7).trans (rfl : _ = some (Value.int .i64 0)); have f7 := blk_frozen HX.out 7; have c8 := (blk_cell HX.out 8).trans (rfl : _ = some (Value.int .i64 0)); have f8 := blk_frozen HX.out 8; have c9 := (blk_cell HX.out 9).trans (rfl : _ = some (Value.int .i64 0)); have f9 := blk_frozen HX.out 9; have c10 := (blk_cell HX.out 10).trans (rfl : _ = some (Value.int .i64 0)); have f10 := blk_frozen HX.out 10))
  go_region
  go_wp2
  have HP := put11 (t := 29) (v0 := .int .i64 (1)) (v1 := .int .i64 (1)) (v2 := .int .i64 (ix 0 a 0)) (v3 := .int .i64 (ix 0 a 1)) (v4 := .int .i64 (0)) (v5 := .int .i64 (0)) (v6 := .int .i64 (0)) (v7 := .int .i64 (0)) (v8 := .int .i64 (0)) (v9 := .int .i64 (0)) (v10 := .int .i64 (0)) HX.out HB.out HG.out
  exact bodyPost_ret (results_cell_row rfl _ _ B 29 #[.int .i64 1, .int .i64 1, .int .i64 (ix 0 a 0), .int .i64 (ix 0 a 1), .int .i64 0, .int .i64 0, .int .i64 0, .int .i64 0, .int .i64 0, .int .i64 0, .int .i64 0] (0, 0) _ rfl (blk_drew HP.1) Tryd.underlying29 rfl (by kernel_rfl)) rfl ⟨rfl, below_drew1 HP.2⟩

set_option maxHeartbeats 4000000 in
theorem l9Read_out (wd : ByteArray) (hw : wd.size ≤ 4294967280) (a : List Int) (A : Option Addr) (c : Nat) (w : World) (hA : kInt.C w A a.length a) (h0 : dec ((⟨#[105, 110]⟩ : ByteArray) = wd ∧ 2 = a.length) = false) (h1 : dec ((⟨#[111, 117, 116]⟩ : ByteArray) = wd ∧ 2 = a.length) = true) :
    Calls Tryd.prog 24 #[.string wd, .slice A a.length c] w fun e w' => e = .returned (.agg #[.int .i64 1, .int .i64 5, .int .i64 (ix 0 a 0), .int .i64 (ix 0 a 1), .int .i64 0, .int .i64 0, .int .i64 0, .int .i64 0, .int .i64 0, .int .i64 0, .int .i64 0]) ∧ Below w.heap.size w w' := by
  have hlen : a.length = 2 := (dec_iff.1 h1).2.symm
  have HH0 : Hid (dec ((⟨#[105, 110]⟩ : ByteArray) = wd ∧ 2 = 2) = false) := Lib.hid (hlen ▸ h0)
  have HH1 : Hid (dec ((⟨#[111, 117, 116]⟩ : ByteArray) = wd ∧ 2 = 2) = true) := Lib.hid (hlen ▸ h1)
  rw [hlen] at hA ⊢
  have HA := Lib.hid hA
  clear hA hlen h0 h1
  have HD := Lib.hid (fun W => digitL_any 2 (by decide) W)
  go_enter Tryd.func24, Tryd.ntmps24
  go_wp2_with (first | ((with_reducible refine gate_dst (N := 4) rfl ?_); refine box_event ?hg (N := 4) ?hd (cs := #[.int .i64 0, .int .i64 0, .int .i64 0, .int .i64 0, .int .i64 0, .int .i64 0, .int .i64 0, .int .i64 0, .int .i64 0, .int .i64 0, .int .i64 0]) (t := 29) ?hr ?_; (case hd => rfl); (case hg => rfl); (case hr => first | (go_simp; done) | (go_simp; rfl)); intro B hg w3 hbox hb; have HG := Lib.hid (Nat.le_of_eq hg.symm : w.heap.size ≤ B); have HX := Lib.hid hbox; have HB := Lib.hid hb; clear hbox hb hg) | (go_at_call 29; refine (HD.out _).mono ?_; rintro e w4 ⟨kd, rfl, hkd, hb⟩; have hA4 := Kd.C_below HA.out (below_step HB.out hb); obtain ⟨ad0, hA0, q0⟩ := at_int hA4 0 (by decide); obtain ⟨ad1, hA1, q1⟩ := at_int hA4 1 (by decide); subst hA0; obtain rfl := Option.some.inj hA1; have p0 : w4.cell? ad0 = some (.int .i64 (ix 0 a 0)) := q0; have p1 : w4.cell? ⟨ad0.block, ad0.off + 1, none⟩ = some (.int .i64 (ix 0 a 1)) := q1; clear q0 q1; have t0 := (key_is (wd := wd) (u := ⟨#[105, 110]⟩) (m := 2) (n := 2) hkd (by decide) [105, 110, 50] rfl).trans (HH0.out); have t1 := (key_is (wd := wd) (u := ⟨#[111, 117, 116]⟩) (m := 2) (n := 2) hkd (by decide) [111, 117, 116, 50] rfl).trans (HH1.out); have hsz : kd.size = 1 := (by rw [hkd]; rfl); have HX4 := Lib.hid (blk_below HX.out hb); have HB4 := Lib.hid (below_step HB.out hb); clear hb HX HB hkd hA4; have HX := HX4; have HB := HB4; clear HX4 HB4; have c0 := (blk_cell HX.out 0).trans (rfl : _ = some (Value.int .i64 0)); have f0 := blk_frozen HX.out 0; have c1 := (blk_cell HX.out 1).trans (rfl : _ = some (Value.int .i64 0)); have f1 := blk_frozen HX.out 1; have c2 := (blk_cell HX.out 2).trans (rfl : _ = some (Value.int .i64 0)); have f2 := blk_frozen HX.out 2; have c3 := (blk_cell HX.out 3).trans (rfl : _ = some (Value.int .i64 0)); have f3 := blk_frozen HX.out 3; have c4 := (blk_cell HX.out 4).trans (rfl : _ = some (Value.int .i64 0)); have f4 := blk_frozen HX.out 4; have c5 := (blk_cell HX.out 5).trans (rfl : _ = some (Value.int .i64 0)); have f5 := blk_frozen HX.out 5; have c6 := (blk_cell HX.out 6).trans (rfl : _ = some (Value.int .i64 0)); have f6 := blk_frozen HX.out 6; have c7 := (blk_cell HX.out 7).trans (rfl : _ = some (Value.int .i64 0)); have f7 := blk_frozen HX.out 7; have c8 := (blk_cell HX.out 8).trans (rfl : _ = some (Value.int .i64 0)); have f8 := blk_frozen HX.out 8; have c9 := (blk_cell HX.out 9).trans (rfl : _ = some (Value.int .i64 0)); have f9 := blk_frozen HX.out 9; have c10 := (blk_cell HX.out 10).trans (rfl : _ = some (Value.int .i64 0)); have f10 := blk_frozen HX.out 10))
  go_region
  go_wp2
  have HP := put11 (t := 29) (v0 := .int .i64 (1)) (v1 := .int .i64 (5)) (v2 := .int .i64 (ix 0 a 0)) (v3 := .int .i64 (ix 0 a 1)) (v4 := .int .i64 (0)) (v5 := .int .i64 (0)) (v6 := .int .i64 (0)) (v7 := .int .i64 (0)) (v8 := .int .i64 (0)) (v9 := .int .i64 (0)) (v10 := .int .i64 (0)) HX.out HB.out HG.out
  exact bodyPost_ret (results_cell_row rfl _ _ B 29 #[.int .i64 1, .int .i64 5, .int .i64 (ix 0 a 0), .int .i64 (ix 0 a 1), .int .i64 0, .int .i64 0, .int .i64 0, .int .i64 0, .int .i64 0, .int .i64 0, .int .i64 0] (0, 0) _ rfl (blk_drew HP.1) Tryd.underlying29 rfl (by kernel_rfl)) rfl ⟨rfl, below_drew1 HP.2⟩

set_option maxHeartbeats 4000000 in
theorem l9Read_let (wd : ByteArray) (hw : wd.size ≤ 4294967280) (a : List Int) (A : Option Addr) (c : Nat) (w : World) (hA : kInt.C w A a.length a) (h0 : dec ((⟨#[105, 110]⟩ : ByteArray) = wd ∧ 2 = a.length) = false) (h1 : dec ((⟨#[111, 117, 116]⟩ : ByteArray) = wd ∧ 2 = a.length) = false) (h2 : dec ((⟨#[108, 101, 116]⟩ : ByteArray) = wd ∧ 4 = a.length) = true) :
    Calls Tryd.prog 24 #[.string wd, .slice A a.length c] w fun e w' => e = .returned (.agg #[.int .i64 1, .int .i64 2, .int .i64 (ix 0 a 0), .int .i64 (ix 0 a 1), .int .i64 (ix 0 a 2), .int .i64 (ix 0 a 3), .int .i64 0, .int .i64 0, .int .i64 0, .int .i64 0, .int .i64 0]) ∧ Below w.heap.size w w' := by
  have hlen : a.length = 4 := (dec_iff.1 h2).2.symm
  have HH0 : Hid (dec ((⟨#[105, 110]⟩ : ByteArray) = wd ∧ 2 = 4) = false) := Lib.hid (hlen ▸ h0)
  have HH1 : Hid (dec ((⟨#[111, 117, 116]⟩ : ByteArray) = wd ∧ 2 = 4) = false) := Lib.hid (hlen ▸ h1)
  have HH2 : Hid (dec ((⟨#[108, 101, 116]⟩ : ByteArray) = wd ∧ 4 = 4) = true) := Lib.hid (hlen ▸ h2)
  rw [hlen] at hA ⊢
  have HA := Lib.hid hA
  clear hA hlen h0 h1 h2
  have HD := Lib.hid (fun W => digitL_any 4 (by decide) W)
  go_enter Tryd.func24, Tryd.ntmps24
  go_wp2_with (first | ((with_reducible refine gate_dst (N := 4) rfl ?_); refine box_event ?hg (N := 4) ?hd (cs := #[.int .i64 0, .int .i64 0, .int .i64 0, .int .i64 0, .int .i64 0, .int .i64 0, .int .i64 0, .int .i64 0, .int .i64 0, .int .i64 0, .int .i64 0]) (t := 29) ?hr ?_; (case hd => rfl); (case hg => rfl); (case hr => first | (go_simp; done) | (go_simp; rfl)); intro B hg w3 hbox hb; have HG := Lib.hid (Nat.le_of_eq hg.symm : w.heap.size ≤ B); have HX := Lib.hid hbox; have HB := Lib.hid hb; clear hbox hb hg) | (go_at_call 29; refine (HD.out _).mono ?_; rintro e w4 ⟨kd, rfl, hkd, hb⟩; have hA4 := Kd.C_below HA.out (below_step HB.out hb); obtain ⟨ad0, hA0, q0⟩ := at_int hA4 0 (by decide); obtain ⟨ad1, hA1, q1⟩ := at_int hA4 1 (by decide); obtain ⟨ad2, hA2, q2⟩ := at_int hA4 2 (by decide); obtain ⟨ad3, hA3, q3⟩ := at_int hA4 3 (by decide); subst hA0; obtain rfl := Option.some.inj hA1; obtain rfl := Option.some.inj hA2; obtain rfl := Option.some.inj hA3; have p0 : w4.cell? ad0 = some (.int .i64 (ix 0 a 0)) := q0; have p1 : w4.cell? ⟨ad0.block, ad0.off + 1, none⟩ = some (.int .i64 (ix 0 a 1)) := q1; have p2 : w4.cell? ⟨ad0.block, ad0.off + 2, none⟩ = some (.int .i64 (ix 0 a 2)) := q2; have p3 : w4.cell? ⟨ad0.block, ad0.off + 3, none⟩ = some (.int .i64 (ix 0 a 3)) := q3; clear q0 q1 q2 q3; have t0 := (key_is (wd := wd) (u := ⟨#[105, 110]⟩) (m := 2) (n := 4) hkd (by decide) [105, 110, 50] rfl).trans (HH0.out); have t1 := (key_is (wd := wd) (u := ⟨#[111, 117, 116]⟩) (m := 2) (n := 4) hkd (by decide) [111, 117, 116, 50] rfl).trans (HH1.out); have t2 := (key_is (wd := wd) (u := ⟨#[108, 101, 116]⟩) (m := 4) (n := 4) hkd (by decide) [108, 101, 116, 52] rfl).trans (HH2.out); have hsz : kd.size = 1 := (by rw [hkd]; rfl); have HX4 := Lib.hid (blk_below HX.out hb); have HB4 := Lib.hid (below_step HB.out hb); clear hb HX HB hkd hA4; have HX := HX4; have HB := HB4; clear HX4 HB4; have c0 := (blk_cell HX.out 0).trans (rfl : _ = some (Value.int .i64 0)); have f0 := blk_frozen HX.out 0; have c1 := (blk_cell HX.out 1).trans (rfl : _ = some (Value.int .i64 0)); have f1 := blk_frozen HX.out 1; have c2 := (blk_cell HX.out 2).trans (rfl : _ = some (Value.int .i64 0)); have f2 := blk_frozen HX.out 2; have c3 := (blk_cell HX.out 3).trans (rfl : _ = some (Value.int .i64 0)); have f3 := blk_frozen HX.out 3; have c4 := (blk_cell HX.out 4).trans (rfl : _ = some (Value.int .i64 0)); have f4 := blk_frozen HX.out 4; have c5 := (blk_cell HX.out 5).trans (rfl : _ = some (Value.int .i64 0)); have f5 := blk_frozen HX.out 5; have c6 := (blk_cell HX.out 6).trans (rfl : _ = some (Value.int .i64 0)); have f6 := blk_frozen HX.out 6; have c7 := (blk_cell HX.out 7).trans (rfl : _ = some (Value.int .i64 0)); have f7 := blk_frozen HX.out 7; have c8 := (blk_cell HX.out 8).trans (rfl : _ = some (Value.int .i64 0)); have f8 := blk_frozen HX.out 8; have c9 := (blk_cell HX.out 9).trans (rfl : _ = some (Value.int .i64 0)); have f9 := blk_frozen HX.out 9; have c10 := (blk_cell HX.out 10).trans (rfl : _ = some (Value.int .i64 0)); have f10 := blk_frozen HX.out 10))
  go_region
  go_wp2
  have HP := put11 (t := 29) (v0 := .int .i64 (1)) (v1 := .int .i64 (2)) (v2 := .int .i64 (ix 0 a 0)) (v3 := .int .i64 (ix 0 a 1)) (v4 := .int .i64 (ix 0 a 2)) (v5 := .int .i64 (ix 0 a 3)) (v6 := .int .i64 (0)) (v7 := .int .i64 (0)) (v8 := .int .i64 (0)) (v9 := .int .i64 (0)) (v10 := .int .i64 (0)) HX.out HB.out HG.out
  exact bodyPost_ret (results_cell_row rfl _ _ B 29 #[.int .i64 1, .int .i64 2, .int .i64 (ix 0 a 0), .int .i64 (ix 0 a 1), .int .i64 (ix 0 a 2), .int .i64 (ix 0 a 3), .int .i64 0, .int .i64 0, .int .i64 0, .int .i64 0, .int .i64 0] (0, 0) _ rfl (blk_drew HP.1) Tryd.underlying29 rfl (by kernel_rfl)) rfl ⟨rfl, below_drew1 HP.2⟩

set_option maxHeartbeats 4000000 in
theorem l9Read_trade (wd : ByteArray) (hw : wd.size ≤ 4294967280) (a : List Int) (A : Option Addr) (c : Nat) (w : World) (hA : kInt.C w A a.length a) (h0 : dec ((⟨#[105, 110]⟩ : ByteArray) = wd ∧ 2 = a.length) = false) (h1 : dec ((⟨#[111, 117, 116]⟩ : ByteArray) = wd ∧ 2 = a.length) = false) (h2 : dec ((⟨#[108, 101, 116]⟩ : ByteArray) = wd ∧ 4 = a.length) = false) (h3 : dec ((⟨#[116, 114, 97, 100, 101]⟩ : ByteArray) = wd ∧ 3 = a.length) = true) :
    Calls Tryd.prog 24 #[.string wd, .slice A a.length c] w fun e w' => e = .returned (.agg #[.int .i64 1, .int .i64 3, .int .i64 0, .int .i64 0, .int .i64 (ix 0 a 0), .int .i64 (ix 0 a 1), .int .i64 (ix 0 a 2), .int .i64 0, .int .i64 0, .int .i64 0, .int .i64 0]) ∧ Below w.heap.size w w' := by
  have hlen : a.length = 3 := (dec_iff.1 h3).2.symm
  have HH0 : Hid (dec ((⟨#[105, 110]⟩ : ByteArray) = wd ∧ 2 = 3) = false) := Lib.hid (hlen ▸ h0)
  have HH1 : Hid (dec ((⟨#[111, 117, 116]⟩ : ByteArray) = wd ∧ 2 = 3) = false) := Lib.hid (hlen ▸ h1)
  have HH2 : Hid (dec ((⟨#[108, 101, 116]⟩ : ByteArray) = wd ∧ 4 = 3) = false) := Lib.hid (hlen ▸ h2)
  have HH3 : Hid (dec ((⟨#[116, 114, 97, 100, 101]⟩ : ByteArray) = wd ∧ 3 = 3) = true) := Lib.hid (hlen ▸ h3)
  rw [hlen] at hA ⊢
  have HA := Lib.hid hA
  clear hA hlen h0 h1 h2 h3
  have HD := Lib.hid (fun W => digitL_any 3 (by decide) W)
  go_enter Tryd.func24, Tryd.ntmps24
  go_wp2_with (first | ((with_reducible refine gate_dst (N := 4) rfl ?_); refine box_event ?hg (N := 4) ?hd (cs := #[.int .i64 0, .int .i64 0, .int .i64 0, .int .i64 0, .int .i64 0, .int .i64 0, .int .i64 0, .int .i64 0, .int .i64 0, .int .i64 0, .int .i64 0]) (t := 29) ?hr ?_; (case hd => rfl); (case hg => rfl); (case hr => first | (go_simp; done) | (go_simp; rfl)); intro B hg w3 hbox hb; have HG := Lib.hid (Nat.le_of_eq hg.symm : w.heap.size ≤ B); have HX := Lib.hid hbox; have HB := Lib.hid hb; clear hbox hb hg) | (go_at_call 29; refine (HD.out _).mono ?_; rintro e w4 ⟨kd, rfl, hkd, hb⟩; have hA4 := Kd.C_below HA.out (below_step HB.out hb); obtain ⟨ad0, hA0, q0⟩ := at_int hA4 0 (by decide); obtain ⟨ad1, hA1, q1⟩ := at_int hA4 1 (by decide); obtain ⟨ad2, hA2, q2⟩ := at_int hA4 2 (by decide); subst hA0; obtain rfl := Option.some.inj hA1; obtain rfl := Option.some.inj hA2; have p0 : w4.cell? ad0 = some (.int .i64 (ix 0 a 0)) := q0; have p1 : w4.cell? ⟨ad0.block, ad0.off + 1, none⟩ = some (.int .i64 (ix 0 a 1)) := q1; have p2 : w4.cell? ⟨ad0.block, ad0.off + 2, none⟩ = some (.int .i64 (ix 0 a 2)) := q2; clear q0 q1 q2; have t0 := (key_is (wd := wd) (u := ⟨#[105, 110]⟩) (m := 2) (n := 3) hkd (by decide) [105, 110, 50] rfl).trans (HH0.out); have t1 := (key_is (wd := wd) (u := ⟨#[111, 117, 116]⟩) (m := 2) (n := 3) hkd (by decide) [111, 117, 116, 50] rfl).trans (HH1.out); have t2 := (key_is (wd := wd) (u := ⟨#[108, 101, 116]⟩) (m := 4) (n := 3) hkd (by decide) [108, 101, 116, 52] rfl).trans (HH2.out); have t3 := (key_is (wd := wd) (u := ⟨#[116, 114, 97, 100, 101]⟩) (m := 3) (n := 3) hkd (by decide) [116, 114, 97, 100, 101, 51] rfl).trans (HH3.out); have hsz : kd.size = 1 := (by rw [hkd]; rfl); have HX4 := Lib.hid (blk_below HX.out hb); have HB4 := Lib.hid (below_step HB.out hb); clear hb HX HB hkd hA4; have HX := HX4; have HB := HB4; clear HX4 HB4; have c0 := (blk_cell HX.out 0).trans (rfl : _ = some (Value.int .i64 0)); have f0 := blk_frozen HX.out 0; have c1 := (blk_cell HX.out 1).trans (rfl : _ = some (Value.int .i64 0)); have f1 := blk_frozen HX.out 1; have c2 := (blk_cell HX.out 2).trans (rfl : _ = some (Value.int .i64 0)); have f2 := blk_frozen HX.out 2; have c3 := (blk_cell HX.out 3).trans (rfl : _ = some (Value.int .i64 0)); have f3 := blk_frozen HX.out 3; have c4 := (blk_cell HX.out 4).trans (rfl : _ = some (Value.int .i64 0)); have f4 := blk_frozen HX.out 4; have c5 := (blk_cell HX.out 5).trans (rfl : _ = some (Value.int .i64 0)); have f5 := blk_frozen HX.out 5; have c6 := (blk_cell HX.out 6).trans (rfl : _ = some (Value.int .i64 0)); have f6 := blk_frozen HX.out 6; have c7 := (blk_cell HX.out 7).trans (rfl : _ = some (Value.int .i64 0)); have f7 := blk_frozen HX.out 7; have c8 := (blk_cell HX.out 8).trans (rfl : _ = some (Value.int .i64 0)); have f8 := blk_frozen HX.out 8; have c9 := (blk_cell HX.out 9).trans (rfl : _ = some (Value.int .i64 0)); have f9 := blk_frozen HX.out 9; have c10 := (blk_cell HX.out 10).trans (rfl : _ = some (Value.int .i64 0)); have f10 := blk_frozen HX.out 10))
  go_region
  go_wp2
  have HP := put11 (t := 29) (v0 := .int .i64 (1)) (v1 := .int .i64 (3)) (v2 := .int .i64 (0)) (v3 := .int .i64 (0)) (v4 := .int .i64 (ix 0 a 0)) (v5 := .int .i64 (ix 0 a 1)) (v6 := .int .i64 (ix 0 a 2)) (v7 := .int .i64 (0)) (v8 := .int .i64 (0)) (v9 := .int .i64 (0)) (v10 := .int .i64 (0)) HX.out HB.out HG.out
  exact bodyPost_ret (results_cell_row rfl _ _ B 29 #[.int .i64 1, .int .i64 3, .int .i64 0, .int .i64 0, .int .i64 (ix 0 a 0), .int .i64 (ix 0 a 1), .int .i64 (ix 0 a 2), .int .i64 0, .int .i64 0, .int .i64 0, .int .i64 0] (0, 0) _ rfl (blk_drew HP.1) Tryd.underlying29 rfl (by kernel_rfl)) rfl ⟨rfl, below_drew1 HP.2⟩

set_option maxHeartbeats 4000000 in
theorem l9Read_next (wd : ByteArray) (hw : wd.size ≤ 4294967280) (a : List Int) (A : Option Addr) (c : Nat) (w : World) (hA : kInt.C w A a.length a) (h0 : dec ((⟨#[105, 110]⟩ : ByteArray) = wd ∧ 2 = a.length) = false) (h1 : dec ((⟨#[111, 117, 116]⟩ : ByteArray) = wd ∧ 2 = a.length) = false) (h2 : dec ((⟨#[108, 101, 116]⟩ : ByteArray) = wd ∧ 4 = a.length) = false) (h3 : dec ((⟨#[116, 114, 97, 100, 101]⟩ : ByteArray) = wd ∧ 3 = a.length) = false) (h4 : dec ((⟨#[110, 101, 120, 116]⟩ : ByteArray) = wd ∧ 2 = a.length) = true) :
    Calls Tryd.prog 24 #[.string wd, .slice A a.length c] w fun e w' => e = .returned (.agg #[.int .i64 1, .int .i64 4, .int .i64 0, .int .i64 0, .int .i64 0, .int .i64 0, .int .i64 (ix 0 a 0), .int .i64 (ix 0 a 1), .int .i64 0, .int .i64 0, .int .i64 0]) ∧ Below w.heap.size w w' := by
  have hlen : a.length = 2 := (dec_iff.1 h4).2.symm
  have HH0 : Hid (dec ((⟨#[105, 110]⟩ : ByteArray) = wd ∧ 2 = 2) = false) := Lib.hid (hlen ▸ h0)
  have HH1 : Hid (dec ((⟨#[111, 117, 116]⟩ : ByteArray) = wd ∧ 2 = 2) = false) := Lib.hid (hlen ▸ h1)
  have HH2 : Hid (dec ((⟨#[108, 101, 116]⟩ : ByteArray) = wd ∧ 4 = 2) = false) := Lib.hid (hlen ▸ h2)
  have HH3 : Hid (dec ((⟨#[116, 114, 97, 100, 101]⟩ : ByteArray) = wd ∧ 3 = 2) = false) := Lib.hid (hlen ▸ h3)
  have HH4 : Hid (dec ((⟨#[110, 101, 120, 116]⟩ : ByteArray) = wd ∧ 2 = 2) = true) := Lib.hid (hlen ▸ h4)
  rw [hlen] at hA ⊢
  have HA := Lib.hid hA
  clear hA hlen h0 h1 h2 h3 h4
  have HD := Lib.hid (fun W => digitL_any 2 (by decide) W)
  go_enter Tryd.func24, Tryd.ntmps24
  go_wp2_with (first | ((with_reducible refine gate_dst (N := 4) rfl ?_); refine box_event ?hg (N := 4) ?hd (cs := #[.int .i64 0, .int .i64 0, .int .i64 0, .int .i64 0, .int .i64 0, .int .i64 0, .int .i64 0, .int .i64 0, .int .i64 0, .int .i64 0, .int .i64 0]) (t := 29) ?hr ?_; (case hd => rfl); (case hg => rfl); (case hr => first | (go_simp; done) | (go_simp; rfl)); intro B hg w3 hbox hb; have HG := Lib.hid (Nat.le_of_eq hg.symm : w.heap.size ≤ B); have HX := Lib.hid hbox; have HB := Lib.hid hb; clear hbox hb hg) | (go_at_call 29; refine (HD.out _).mono ?_; rintro e w4 ⟨kd, rfl, hkd, hb⟩; have hA4 := Kd.C_below HA.out (below_step HB.out hb); obtain ⟨ad0, hA0, q0⟩ := at_int hA4 0 (by decide); obtain ⟨ad1, hA1, q1⟩ := at_int hA4 1 (by decide); subst hA0; obtain rfl := Option.some.inj hA1; have p0 : w4.cell? ad0 = some (.int .i64 (ix 0 a 0)) := q0; have p1 : w4.cell? ⟨ad0.block, ad0.off + 1, none⟩ = some (.int .i64 (ix 0 a 1)) := q1; clear q0 q1; have t0 := (key_is (wd := wd) (u := ⟨#[105, 110]⟩) (m := 2) (n := 2) hkd (by decide) [105, 110, 50] rfl).trans (HH0.out); have t1 := (key_is (wd := wd) (u := ⟨#[111, 117, 116]⟩) (m := 2) (n := 2) hkd (by decide) [111, 117, 116, 50] rfl).trans (HH1.out); have t2 := (key_is (wd := wd) (u := ⟨#[108, 101, 116]⟩) (m := 4) (n := 2) hkd (by decide) [108, 101, 116, 52] rfl).trans (HH2.out); have t3 := (key_is (wd := wd) (u := ⟨#[116, 114, 97, 100, 101]⟩) (m := 3) (n := 2) hkd (by decide) [116, 114, 97, 100, 101, 51] rfl).trans (HH3.out); have t4 := (key_is (wd := wd) (u := ⟨#[110, 101, 120, 116]⟩) (m := 2) (n := 2) hkd (by decide) [110, 101, 120, 116, 50] rfl).trans (HH4.out); have hsz : kd.size = 1 := (by rw [hkd]; rfl); have HX4 := Lib.hid (blk_below HX.out hb); have HB4 := Lib.hid (below_step HB.out hb); clear hb HX HB hkd hA4; have HX := HX4; have HB := HB4; clear HX4 HB4; have c0 := (blk_cell HX.out 0).trans (rfl : _ = some (Value.int .i64 0)); have f0 := blk_frozen HX.out 0; have c1 := (blk_cell HX.out 1).trans (rfl : _ = some (Value.int .i64 0)); have f1 := blk_frozen HX.out 1; have c2 := (blk_cell HX.out 2).trans (rfl : _ = some (Value.int .i64 0)); have f2 := blk_frozen HX.out 2; have c3 := (blk_cell HX.out 3).trans (rfl : _ = some (Value.int .i64 0)); have f3 := blk_frozen HX.out 3; have c4 := (blk_cell HX.out 4).trans (rfl : _ = some (Value.int .i64 0)); have f4 := blk_frozen HX.out 4; have c5 := (blk_cell HX.out 5).trans (rfl : _ = some (Value.int .i64 0)); have f5 := blk_frozen HX.out 5; have c6 := (blk_cell HX.out 6).trans (rfl : _ = some (Value.int .i64 0)); have f6 := blk_frozen HX.out 6; have c7 := (blk_cell HX.out 7).trans (rfl : _ = some (Value.int .i64 0)); have f7 := blk_frozen HX.out 7; have c8 := (blk_cell HX.out 8).trans (rfl : _ = some (Value.int .i64 0)); have f8 := blk_frozen HX.out 8; have c9 := (blk_cell HX.out 9).trans (rfl : _ = some (Value.int .i64 0)); have f9 := blk_frozen HX.out 9; have c10 := (blk_cell HX.out 10).trans (rfl : _ = some (Value.int .i64 0)); have f10 := blk_frozen HX.out 10))
  go_region
  go_wp2
  have HP := put11 (t := 29) (v0 := .int .i64 (1)) (v1 := .int .i64 (4)) (v2 := .int .i64 (0)) (v3 := .int .i64 (0)) (v4 := .int .i64 (0)) (v5 := .int .i64 (0)) (v6 := .int .i64 (ix 0 a 0)) (v7 := .int .i64 (ix 0 a 1)) (v8 := .int .i64 (0)) (v9 := .int .i64 (0)) (v10 := .int .i64 (0)) HX.out HB.out HG.out
  exact bodyPost_ret (results_cell_row rfl _ _ B 29 #[.int .i64 1, .int .i64 4, .int .i64 0, .int .i64 0, .int .i64 0, .int .i64 0, .int .i64 (ix 0 a 0), .int .i64 (ix 0 a 1), .int .i64 0, .int .i64 0, .int .i64 0] (0, 0) _ rfl (blk_drew HP.1) Tryd.underlying29 rfl (by kernel_rfl)) rfl ⟨rfl, below_drew1 HP.2⟩

set_option maxHeartbeats 4000000 in
theorem l9Read_hear (wd : ByteArray) (hw : wd.size ≤ 4294967280) (a : List Int) (A : Option Addr) (c : Nat) (w : World) (hA : kInt.C w A a.length a) (h0 : dec ((⟨#[105, 110]⟩ : ByteArray) = wd ∧ 2 = a.length) = false) (h1 : dec ((⟨#[111, 117, 116]⟩ : ByteArray) = wd ∧ 2 = a.length) = false) (h2 : dec ((⟨#[108, 101, 116]⟩ : ByteArray) = wd ∧ 4 = a.length) = false) (h3 : dec ((⟨#[116, 114, 97, 100, 101]⟩ : ByteArray) = wd ∧ 3 = a.length) = false) (h4 : dec ((⟨#[110, 101, 120, 116]⟩ : ByteArray) = wd ∧ 2 = a.length) = false) (h5 : dec ((⟨#[104, 101, 97, 114]⟩ : ByteArray) = wd ∧ 1 = a.length) = true) :
    Calls Tryd.prog 24 #[.string wd, .slice A a.length c] w fun e w' => e = .returned (.agg #[.int .i64 2, .int .i64 0, .int .i64 0, .int .i64 0, .int .i64 0, .int .i64 0, .int .i64 0, .int .i64 0, .int .i64 (ix 0 a 0), .int .i64 0, .int .i64 0]) ∧ Below w.heap.size w w' := by
  have hlen : a.length = 1 := (dec_iff.1 h5).2.symm
  have HH0 : Hid (dec ((⟨#[105, 110]⟩ : ByteArray) = wd ∧ 2 = 1) = false) := Lib.hid (hlen ▸ h0)
  have HH1 : Hid (dec ((⟨#[111, 117, 116]⟩ : ByteArray) = wd ∧ 2 = 1) = false) := Lib.hid (hlen ▸ h1)
  have HH2 : Hid (dec ((⟨#[108, 101, 116]⟩ : ByteArray) = wd ∧ 4 = 1) = false) := Lib.hid (hlen ▸ h2)
  have HH3 : Hid (dec ((⟨#[116, 114, 97, 100, 101]⟩ : ByteArray) = wd ∧ 3 = 1) = false) := Lib.hid (hlen ▸ h3)
  have HH4 : Hid (dec ((⟨#[110, 101, 120, 116]⟩ : ByteArray) = wd ∧ 2 = 1) = false) := Lib.hid (hlen ▸ h4)
  have HH5 : Hid (dec ((⟨#[104, 101, 97, 114]⟩ : ByteArray) = wd ∧ 1 = 1) = true) := Lib.hid (hlen ▸ h5)
  rw [hlen] at hA ⊢
  have HA := Lib.hid hA
  clear hA hlen h0 h1 h2 h3 h4 h5
  have HD := Lib.hid (fun W => digitL_any 1 (by decide) W)
  go_enter Tryd.func24, Tryd.ntmps24
  go_wp2_with (first | ((with_reducible refine gate_dst (N := 4) rfl ?_); refine box_event ?hg (N := 4) ?hd (cs := #[.int .i64 0, .int .i64 0, .int .i64 0, .int .i64 0, .int .i64 0, .int .i64 0, .int .i64 0, .int .i64 0, .int .i64 0, .int .i64 0, .int .i64 0]) (t := 29) ?hr ?_; (case hd => rfl); (case hg => rfl); (case hr => first | (go_simp; done) | (go_simp; rfl)); intro B hg w3 hbox hb; have HG := Lib.hid (Nat.le_of_eq hg.symm : w.heap.size ≤ B); have HX := Lib.hid hbox; have HB := Lib.hid hb; clear hbox hb hg) | (go_at_call 29; refine (HD.out _).mono ?_; rintro e w4 ⟨kd, rfl, hkd, hb⟩; have hA4 := Kd.C_below HA.out (below_step HB.out hb); obtain ⟨ad0, hA0, q0⟩ := at_int hA4 0 (by decide); subst hA0; have p0 : w4.cell? ad0 = some (.int .i64 (ix 0 a 0)) := q0; clear q0; have t0 := (key_is (wd := wd) (u := ⟨#[105, 110]⟩) (m := 2) (n := 1) hkd (by decide) [105, 110, 50] rfl).trans (HH0.out); have t1 := (key_is (wd := wd) (u := ⟨#[111, 117, 116]⟩) (m := 2) (n := 1) hkd (by decide) [111, 117, 116, 50] rfl).trans (HH1.out); have t2 := (key_is (wd := wd) (u := ⟨#[108, 101, 116]⟩) (m := 4) (n := 1) hkd (by decide) [108, 101, 116, 52] rfl).trans (HH2.out); have t3 := (key_is (wd := wd) (u := ⟨#[116, 114, 97, 100, 101]⟩) (m := 3) (n := 1) hkd (by decide) [116, 114, 97, 100, 101, 51] rfl).trans (HH3.out); have t4 := (key_is (wd := wd) (u := ⟨#[110, 101, 120, 116]⟩) (m := 2) (n := 1) hkd (by decide) [110, 101, 120, 116, 50] rfl).trans (HH4.out); have t5 := (key_is (wd := wd) (u := ⟨#[104, 101, 97, 114]⟩) (m := 1) (n := 1) hkd (by decide) [104, 101, 97, 114, 49] rfl).trans (HH5.out); have hsz : kd.size = 1 := (by rw [hkd]; rfl); have HX4 := Lib.hid (blk_below HX.out hb); have HB4 := Lib.hid (below_step HB.out hb); clear hb HX HB hkd hA4; have HX := HX4; have HB := HB4; clear HX4 HB4; have c0 := (blk_cell HX.out 0).trans (rfl : _ = some (Value.int .i64 0)); have f0 := blk_frozen HX.out 0; have c1 := (blk_cell HX.out 1).trans (rfl : _ = some (Value.int .i64 0)); have f1 := blk_frozen HX.out 1; have c2 := (blk_cell HX.out 2).trans (rfl : _ = some (Value.int .i64 0)); have f2 := blk_frozen HX.out 2; have c3 := (blk_cell HX.out 3).trans (rfl : _ = some (Value.int .i64 0)); have f3 := blk_frozen HX.out 3; have c4 := (blk_cell HX.out 4).trans (rfl : _ = some (Value.int .i64 0)); have f4 := blk_frozen HX.out 4; have c5 := (blk_cell HX.out 5).trans (rfl : _ = some (Value.int .i64 0)); have f5 := blk_frozen HX.out 5; have c6 := (blk_cell HX.out 6).trans (rfl : _ = some (Value.int .i64 0)); have f6 := blk_frozen HX.out 6; have c7 := (blk_cell HX.out 7).trans (rfl : _ = some (Value.int .i64 0)); have f7 := blk_frozen HX.out 7; have c8 := (blk_cell HX.out 8).trans (rfl : _ = some (Value.int .i64 0)); have f8 := blk_frozen HX.out 8; have c9 := (blk_cell HX.out 9).trans (rfl : _ = some (Value.int .i64 0)); have f9 := blk_frozen HX.out 9; have c10 := (blk_cell HX.out 10).trans (rfl : _ = some (Value.int .i64 0)); have f10 := blk_frozen HX.out 10))
  skip
  go_wp2
  have HP := put11 (t := 29) (v0 := .int .i64 (2)) (v1 := .int .i64 (0)) (v2 := .int .i64 (0)) (v3 := .int .i64 (0)) (v4 := .int .i64 (0)) (v5 := .int .i64 (0)) (v6 := .int .i64 (0)) (v7 := .int .i64 (0)) (v8 := .int .i64 (ix 0 a 0)) (v9 := .int .i64 (0)) (v10 := .int .i64 (0)) HX.out HB.out HG.out
  exact bodyPost_ret (results_cell_row rfl _ _ B 29 #[.int .i64 2, .int .i64 0, .int .i64 0, .int .i64 0, .int .i64 0, .int .i64 0, .int .i64 0, .int .i64 0, .int .i64 (ix 0 a 0), .int .i64 0, .int .i64 0] (0, 0) _ rfl HP.1 Tryd.underlying29 rfl (by kernel_rfl)) rfl ⟨rfl, HP.2⟩

set_option maxHeartbeats 4000000 in
theorem l9Read_lose (wd : ByteArray) (hw : wd.size ≤ 4294967280) (a : List Int) (A : Option Addr) (c : Nat) (w : World) (hA : kInt.C w A a.length a) (h0 : dec ((⟨#[105, 110]⟩ : ByteArray) = wd ∧ 2 = a.length) = false) (h1 : dec ((⟨#[111, 117, 116]⟩ : ByteArray) = wd ∧ 2 = a.length) = false) (h2 : dec ((⟨#[108, 101, 116]⟩ : ByteArray) = wd ∧ 4 = a.length) = false) (h3 : dec ((⟨#[116, 114, 97, 100, 101]⟩ : ByteArray) = wd ∧ 3 = a.length) = false) (h4 : dec ((⟨#[110, 101, 120, 116]⟩ : ByteArray) = wd ∧ 2 = a.length) = false) (h5 : dec ((⟨#[104, 101, 97, 114]⟩ : ByteArray) = wd ∧ 1 = a.length) = false) (h6 : dec ((⟨#[108, 111, 115, 101]⟩ : ByteArray) = wd ∧ 1 = a.length) = true) :
    Calls Tryd.prog 24 #[.string wd, .slice A a.length c] w fun e w' => e = .returned (.agg #[.int .i64 3, .int .i64 0, .int .i64 0, .int .i64 0, .int .i64 0, .int .i64 0, .int .i64 0, .int .i64 0, .int .i64 (ix 0 a 0), .int .i64 0, .int .i64 0]) ∧ Below w.heap.size w w' := by
  have hlen : a.length = 1 := (dec_iff.1 h6).2.symm
  have HH0 : Hid (dec ((⟨#[105, 110]⟩ : ByteArray) = wd ∧ 2 = 1) = false) := Lib.hid (hlen ▸ h0)
  have HH1 : Hid (dec ((⟨#[111, 117, 116]⟩ : ByteArray) = wd ∧ 2 = 1) = false) := Lib.hid (hlen ▸ h1)
  have HH2 : Hid (dec ((⟨#[108, 101, 116]⟩ : ByteArray) = wd ∧ 4 = 1) = false) := Lib.hid (hlen ▸ h2)
  have HH3 : Hid (dec ((⟨#[116, 114, 97, 100, 101]⟩ : ByteArray) = wd ∧ 3 = 1) = false) := Lib.hid (hlen ▸ h3)
  have HH4 : Hid (dec ((⟨#[110, 101, 120, 116]⟩ : ByteArray) = wd ∧ 2 = 1) = false) := Lib.hid (hlen ▸ h4)
  have HH5 : Hid (dec ((⟨#[104, 101, 97, 114]⟩ : ByteArray) = wd ∧ 1 = 1) = false) := Lib.hid (hlen ▸ h5)
  have HH6 : Hid (dec ((⟨#[108, 111, 115, 101]⟩ : ByteArray) = wd ∧ 1 = 1) = true) := Lib.hid (hlen ▸ h6)
  rw [hlen] at hA ⊢
  have HA := Lib.hid hA
  clear hA hlen h0 h1 h2 h3 h4 h5 h6
  have HD := Lib.hid (fun W => digitL_any 1 (by decide) W)
  go_enter Tryd.func24, Tryd.ntmps24
  go_wp2_with (first | ((with_reducible refine gate_dst (N := 4) rfl ?_); refine box_event ?hg (N := 4) ?hd (cs := #[.int .i64 0, .int .i64 0, .int .i64 0, .int .i64 0, .int .i64 0, .int .i64 0, .int .i64 0, .int .i64 0, .int .i64 0, .int .i64 0, .int .i64 0]) (t := 29) ?hr ?_; (case hd => rfl); (case hg => rfl); (case hr => first | (go_simp; done) | (go_simp; rfl)); intro B hg w3 hbox hb; have HG := Lib.hid (Nat.le_of_eq hg.symm : w.heap.size ≤ B); have HX := Lib.hid hbox; have HB := Lib.hid hb; clear hbox hb hg) | (go_at_call 29; refine (HD.out _).mono ?_; rintro e w4 ⟨kd, rfl, hkd, hb⟩; have hA4 := Kd.C_below HA.out (below_step HB.out hb); obtain ⟨ad0, hA0, q0⟩ := at_int hA4 0 (by decide); subst hA0; have p0 : w4.cell? ad0 = some (.int .i64 (ix 0 a 0)) := q0; clear q0; have t0 := (key_is (wd := wd) (u := ⟨#[105, 110]⟩) (m := 2) (n := 1) hkd (by decide) [105, 110, 50] rfl).trans (HH0.out); have t1 := (key_is (wd := wd) (u := ⟨#[111, 117, 116]⟩) (m := 2) (n := 1) hkd (by decide) [111, 117, 116, 50] rfl).trans (HH1.out); have t2 := (key_is (wd := wd) (u := ⟨#[108, 101, 116]⟩) (m := 4) (n := 1) hkd (by decide) [108, 101, 116, 52] rfl).trans (HH2.out); have t3 := (key_is (wd := wd) (u := ⟨#[116, 114, 97, 100, 101]⟩) (m := 3) (n := 1) hkd (by decide) [116, 114, 97, 100, 101, 51] rfl).trans (HH3.out); have t4 := (key_is (wd := wd) (u := ⟨#[110, 101, 120, 116]⟩) (m := 2) (n := 1) hkd (by decide) [110, 101, 120, 116, 50] rfl).trans (HH4.out); have t5 := (key_is (wd := wd) (u := ⟨#[104, 101, 97, 114]⟩) (m := 1) (n := 1) hkd (by decide) [104, 101, 97, 114, 49] rfl).trans (HH5.out); have t6 := (key_is (wd := wd) (u := ⟨#[108, 111, 115, 101]⟩) (m := 1) (n := 1) hkd (by decide) [108, 111, 115, 101, 49] rfl).trans (HH6.out); have hsz : kd.size = 1 := (by rw [hkd]; rfl); have HX4 := Lib.hid (blk_below HX.out hb); have HB4 := Lib.hid (below_step HB.out hb); clear hb HX HB hkd hA4; have HX := HX4; have HB := HB4; clear HX4 HB4; have c0 := (blk_cell HX.out 0).trans (rfl : _ = some (Value.int .i64 0)); have f0 := blk_frozen HX.out 0; have c1 := (blk_cell HX.out 1).trans (rfl : _ = some (Value.int .i64 0)); have f1 := blk_frozen HX.out 1; have c2 := (blk_cell HX.out 2).trans (rfl : _ = some (Value.int .i64 0)); have f2 := blk_frozen HX.out 2; have c3 := (blk_cell HX.out 3).trans (rfl : _ = some (Value.int .i64 0)); have f3 := blk_frozen HX.out 3; have c4 := (blk_cell HX.out 4).trans (rfl : _ = some (Value.int .i64 0)); have f4 := blk_frozen HX.out 4; have c5 := (blk_cell HX.out 5).trans (rfl : _ = some (Value.int .i64 0)); have f5 := blk_frozen HX.out 5; have c6 := (blk_cell HX.out 6).trans (rfl : _ = some (Value.int .i64 0)); have f6 := blk_frozen HX.out 6; have c7 := (blk_cell HX.out 7).trans (rfl : _ = some (Value.int .i64 0)); have f7 := blk_frozen HX.out 7; have c8 := (blk_cell HX.out 8).trans (rfl : _ = some (Value.int .i64 0)); have f8 := blk_frozen HX.out 8; have c9 := (blk_cell HX.out 9).trans (rfl : _ = some (Value.int .i64 0)); have f9 := blk_frozen HX.out 9; have c10 := (blk_cell HX.out 10).trans (rfl : _ = some (Value.int .i64 0)); have f10 := blk_frozen HX.out 10))
  skip
  go_wp2
  have HP := put11 (t := 29) (v0 := .int .i64 (3)) (v1 := .int .i64 (0)) (v2 := .int .i64 (0)) (v3 := .int .i64 (0)) (v4 := .int .i64 (0)) (v5 := .int .i64 (0)) (v6 := .int .i64 (0)) (v7 := .int .i64 (0)) (v8 := .int .i64 (ix 0 a 0)) (v9 := .int .i64 (0)) (v10 := .int .i64 (0)) HX.out HB.out HG.out
  exact bodyPost_ret (results_cell_row rfl _ _ B 29 #[.int .i64 3, .int .i64 0, .int .i64 0, .int .i64 0, .int .i64 0, .int .i64 0, .int .i64 0, .int .i64 0, .int .i64 (ix 0 a 0), .int .i64 0, .int .i64 0] (0, 0) _ rfl HP.1 Tryd.underlying29 rfl (by kernel_rfl)) rfl ⟨rfl, HP.2⟩

set_option maxHeartbeats 4000000 in
theorem l9Read_twice (wd : ByteArray) (hw : wd.size ≤ 4294967280) (a : List Int) (A : Option Addr) (c : Nat) (w : World) (hA : kInt.C w A a.length a) (h0 : dec ((⟨#[105, 110]⟩ : ByteArray) = wd ∧ 2 = a.length) = false) (h1 : dec ((⟨#[111, 117, 116]⟩ : ByteArray) = wd ∧ 2 = a.length) = false) (h2 : dec ((⟨#[108, 101, 116]⟩ : ByteArray) = wd ∧ 4 = a.length) = false) (h3 : dec ((⟨#[116, 114, 97, 100, 101]⟩ : ByteArray) = wd ∧ 3 = a.length) = false) (h4 : dec ((⟨#[110, 101, 120, 116]⟩ : ByteArray) = wd ∧ 2 = a.length) = false) (h5 : dec ((⟨#[104, 101, 97, 114]⟩ : ByteArray) = wd ∧ 1 = a.length) = false) (h6 : dec ((⟨#[108, 111, 115, 101]⟩ : ByteArray) = wd ∧ 1 = a.length) = false) (h7 : dec ((⟨#[116, 119, 105, 99, 101]⟩ : ByteArray) = wd ∧ 1 = a.length) = true) :
    Calls Tryd.prog 24 #[.string wd, .slice A a.length c] w fun e w' => e = .returned (.agg #[.int .i64 4, .int .i64 0, .int .i64 0, .int .i64 0, .int .i64 0, .int .i64 0, .int .i64 0, .int .i64 0, .int .i64 (ix 0 a 0), .int .i64 0, .int .i64 0]) ∧ Below w.heap.size w w' := by
  have hlen : a.length = 1 := (dec_iff.1 h7).2.symm
  have HH0 : Hid (dec ((⟨#[105, 110]⟩ : ByteArray) = wd ∧ 2 = 1) = false) := Lib.hid (hlen ▸ h0)
  have HH1 : Hid (dec ((⟨#[111, 117, 116]⟩ : ByteArray) = wd ∧ 2 = 1) = false) := Lib.hid (hlen ▸ h1)
  have HH2 : Hid (dec ((⟨#[108, 101, 116]⟩ : ByteArray) = wd ∧ 4 = 1) = false) := Lib.hid (hlen ▸ h2)
  have HH3 : Hid (dec ((⟨#[116, 114, 97, 100, 101]⟩ : ByteArray) = wd ∧ 3 = 1) = false) := Lib.hid (hlen ▸ h3)
  have HH4 : Hid (dec ((⟨#[110, 101, 120, 116]⟩ : ByteArray) = wd ∧ 2 = 1) = false) := Lib.hid (hlen ▸ h4)
  have HH5 : Hid (dec ((⟨#[104, 101, 97, 114]⟩ : ByteArray) = wd ∧ 1 = 1) = false) := Lib.hid (hlen ▸ h5)
  have HH6 : Hid (dec ((⟨#[108, 111, 115, 101]⟩ : ByteArray) = wd ∧ 1 = 1) = false) := Lib.hid (hlen ▸ h6)
  have HH7 : Hid (dec ((⟨#[116, 119, 105, 99, 101]⟩ : ByteArray) = wd ∧ 1 = 1) = true) := Lib.hid (hlen ▸ h7)
  rw [hlen] at hA ⊢
  have HA := Lib.hid hA
  clear hA hlen h0 h1 h2 h3 h4 h5 h6 h7
  have HD := Lib.hid (fun W => digitL_any 1 (by decide) W)
  go_enter Tryd.func24, Tryd.ntmps24
  go_wp2_with (first | ((with_reducible refine gate_dst (N := 4) rfl ?_); refine box_event ?hg (N := 4) ?hd (cs := #[.int .i64 0, .int .i64 0, .int .i64 0, .int .i64 0, .int .i64 0, .int .i64 0, .int .i64 0, .int .i64 0, .int .i64 0, .int .i64 0, .int .i64 0]) (t := 29) ?hr ?_; (case hd => rfl); (case hg => rfl); (case hr => first | (go_simp; done) | (go_simp; rfl)); intro B hg w3 hbox hb; have HG := Lib.hid (Nat.le_of_eq hg.symm : w.heap.size ≤ B); have HX := Lib.hid hbox; have HB := Lib.hid hb; clear hbox hb hg) | (go_at_call 29; refine (HD.out _).mono ?_; rintro e w4 ⟨kd, rfl, hkd, hb⟩; have hA4 := Kd.C_below HA.out (below_step HB.out hb); obtain ⟨ad0, hA0, q0⟩ := at_int hA4 0 (by decide); subst hA0; have p0 : w4.cell? ad0 = some (.int .i64 (ix 0 a 0)) := q0; clear q0; have t0 := (key_is (wd := wd) (u := ⟨#[105, 110]⟩) (m := 2) (n := 1) hkd (by decide) [105, 110, 50] rfl).trans (HH0.out); have t1 := (key_is (wd := wd) (u := ⟨#[111, 117, 116]⟩) (m := 2) (n := 1) hkd (by decide) [111, 117, 116, 50] rfl).trans (HH1.out); have t2 := (key_is (wd := wd) (u := ⟨#[108, 101, 116]⟩) (m := 4) (n := 1) hkd (by decide) [108, 101, 116, 52] rfl).trans (HH2.out); have t3 := (key_is (wd := wd) (u := ⟨#[116, 114, 97, 100, 101]⟩) (m := 3) (n := 1) hkd (by decide) [116, 114, 97, 100, 101, 51] rfl).trans (HH3.out); have t4 := (key_is (wd := wd) (u := ⟨#[110, 101, 120, 116]⟩) (m := 2) (n := 1) hkd (by decide) [110, 101, 120, 116, 50] rfl).trans (HH4.out); have t5 := (key_is (wd := wd) (u := ⟨#[104, 101, 97, 114]⟩) (m := 1) (n := 1) hkd (by decide) [104, 101, 97, 114, 49] rfl).trans (HH5.out); have t6 := (key_is (wd := wd) (u := ⟨#[108, 111, 115, 101]⟩) (m := 1) (n := 1) hkd (by decide) [108, 111, 115, 101, 49] rfl).trans (HH6.out); have t7 := (key_is (wd := wd) (u := ⟨#[116, 119, 105, 99, 101]⟩) (m := 1) (n := 1) hkd (by decide) [116, 119, 105, 99, 101, 49] rfl).trans (HH7.out); have hsz : kd.size = 1 := (by rw [hkd]; rfl); have HX4 := Lib.hid (blk_below HX.out hb); have HB4 := Lib.hid (below_step HB.out hb); clear hb HX HB hkd hA4; have HX := HX4; have HB := HB4; clear HX4 HB4; have c0 := (blk_cell HX.out 0).trans (rfl : _ = some (Value.int .i64 0)); have f0 := blk_frozen HX.out 0; have c1 := (blk_cell HX.out 1).trans (rfl : _ = some (Value.int .i64 0)); have f1 := blk_frozen HX.out 1; have c2 := (blk_cell HX.out 2).trans (rfl : _ = some (Value.int .i64 0)); have f2 := blk_frozen HX.out 2; have c3 := (blk_cell HX.out 3).trans (rfl : _ = some (Value.int .i64 0)); have f3 := blk_frozen HX.out 3; have c4 := (blk_cell HX.out 4).trans (rfl : _ = some (Value.int .i64 0)); have f4 := blk_frozen HX.out 4; have c5 := (blk_cell HX.out 5).trans (rfl : _ = some (Value.int .i64 0)); have f5 := blk_frozen HX.out 5; have c6 := (blk_cell HX.out 6).trans (rfl : _ = some (Value.int .i64 0)); have f6 := blk_frozen HX.out 6; have c7 := (blk_cell HX.out 7).trans (rfl : _ = some (Value.int .i64 0)); have f7 := blk_frozen HX.out 7; have c8 := (blk_cell HX.out 8).trans (rfl : _ = some (Value.int .i64 0)); have f8 := blk_frozen HX.out 8; have c9 := (blk_cell HX.out 9).trans (rfl : _ = some (Value.int .i64 0)); have f9 := blk_frozen HX.out 9; have c10 := (blk_cell HX.out 10).trans (rfl : _ = some (Value.int .i64 0)); have f10 := blk_frozen HX.out 10))
  skip
  go_wp2
  have HP := put11 (t := 29) (v0 := .int .i64 (4)) (v1 := .int .i64 (0)) (v2 := .int .i64 (0)) (v3 := .int .i64 (0)) (v4 := .int .i64 (0)) (v5 := .int .i64 (0)) (v6 := .int .i64 (0)) (v7 := .int .i64 (0)) (v8 := .int .i64 (ix 0 a 0)) (v9 := .int .i64 (0)) (v10 := .int .i64 (0)) HX.out HB.out HG.out
  exact bodyPost_ret (results_cell_row rfl _ _ B 29 #[.int .i64 4, .int .i64 0, .int .i64 0, .int .i64 0, .int .i64 0, .int .i64 0, .int .i64 0, .int .i64 0, .int .i64 (ix 0 a 0), .int .i64 0, .int .i64 0] (0, 0) _ rfl HP.1 Tryd.underlying29 rfl (by kernel_rfl)) rfl ⟨rfl, HP.2⟩

set_option maxHeartbeats 4000000 in
theorem l9Read_give (wd : ByteArray) (hw : wd.size ≤ 4294967280) (a : List Int) (A : Option Addr) (c : Nat) (w : World) (hA : kInt.C w A a.length a) (h0 : dec ((⟨#[105, 110]⟩ : ByteArray) = wd ∧ 2 = a.length) = false) (h1 : dec ((⟨#[111, 117, 116]⟩ : ByteArray) = wd ∧ 2 = a.length) = false) (h2 : dec ((⟨#[108, 101, 116]⟩ : ByteArray) = wd ∧ 4 = a.length) = false) (h3 : dec ((⟨#[116, 114, 97, 100, 101]⟩ : ByteArray) = wd ∧ 3 = a.length) = false) (h4 : dec ((⟨#[110, 101, 120, 116]⟩ : ByteArray) = wd ∧ 2 = a.length) = false) (h5 : dec ((⟨#[104, 101, 97, 114]⟩ : ByteArray) = wd ∧ 1 = a.length) = false) (h6 : dec ((⟨#[108, 111, 115, 101]⟩ : ByteArray) = wd ∧ 1 = a.length) = false) (h7 : dec ((⟨#[116, 119, 105, 99, 101]⟩ : ByteArray) = wd ∧ 1 = a.length) = false) (h8 : dec ((⟨#[103, 105, 118, 101]⟩ : ByteArray) = wd ∧ 1 = a.length) = true) :
    Calls Tryd.prog 24 #[.string wd, .slice A a.length c] w fun e w' => e = .returned (.agg #[.int .i64 6, .int .i64 0, .int .i64 0, .int .i64 0, .int .i64 0, .int .i64 0, .int .i64 0, .int .i64 0, .int .i64 (ix 0 a 0), .int .i64 0, .int .i64 0]) ∧ Below w.heap.size w w' := by
  have hlen : a.length = 1 := (dec_iff.1 h8).2.symm
  have HH0 : Hid (dec ((⟨#[105, 110]⟩ : ByteArray) = wd ∧ 2 = 1) = false) := Lib.hid (hlen ▸ h0)
  have HH1 : Hid (dec ((⟨#[111, 117, 116]⟩ : ByteArray) = wd ∧ 2 = 1) = false) := Lib.hid (hlen ▸ h1)
  have HH2 : Hid (dec ((⟨#[108, 101, 116]⟩ : ByteArray) = wd ∧ 4 = 1) = false) := Lib.hid (hlen ▸ h2)
  have HH3 : Hid (dec ((⟨#[116, 114, 97, 100, 101]⟩ : ByteArray) = wd ∧ 3 = 1) = false) := Lib.hid (hlen ▸ h3)
  have HH4 : Hid (dec ((⟨#[110, 101, 120, 116]⟩ : ByteArray) = wd ∧ 2 = 1) = false) := Lib.hid (hlen ▸ h4)
  have HH5 : Hid (dec ((⟨#[104, 101, 97, 114]⟩ : ByteArray) = wd ∧ 1 = 1) = false) := Lib.hid (hlen ▸ h5)
  have HH6 : Hid (dec ((⟨#[108, 111, 115, 101]⟩ : ByteArray) = wd ∧ 1 = 1) = false) := Lib.hid (hlen ▸ h6)
  have HH7 : Hid (dec ((⟨#[116, 119, 105, 99, 101]⟩ : ByteArray) = wd ∧ 1 = 1) = false) := Lib.hid (hlen ▸ h7)
  have HH8 : Hid (dec ((⟨#[103, 105, 118, 101]⟩ : ByteArray) = wd ∧ 1 = 1) = true) := Lib.hid (hlen ▸ h8)
  rw [hlen] at hA ⊢
  have HA := Lib.hid hA
  clear hA hlen h0 h1 h2 h3 h4 h5 h6 h7 h8
  have HD := Lib.hid (fun W => digitL_any 1 (by decide) W)
  go_enter Tryd.func24, Tryd.ntmps24
  go_wp2_with (first | ((with_reducible refine gate_dst (N := 4) rfl ?_); refine box_event ?hg (N := 4) ?hd (cs := #[.int .i64 0, .int .i64 0, .int .i64 0, .int .i64 0, .int .i64 0, .int .i64 0, .int .i64 0, .int .i64 0, .int .i64 0, .int .i64 0, .int .i64 0]) (t := 29) ?hr ?_; (case hd => rfl); (case hg => rfl); (case hr => first | (go_simp; done) | (go_simp; rfl)); intro B hg w3 hbox hb; have HG := Lib.hid (Nat.le_of_eq hg.symm : w.heap.size ≤ B); have HX := Lib.hid hbox; have HB := Lib.hid hb; clear hbox hb hg) | (go_at_call 29; refine (HD.out _).mono ?_; rintro e w4 ⟨kd, rfl, hkd, hb⟩; have hA4 := Kd.C_below HA.out (below_step HB.out hb); obtain ⟨ad0, hA0, q0⟩ := at_int hA4 0 (by decide); subst hA0; have p0 : w4.cell? ad0 = some (.int .i64 (ix 0 a 0)) := q0; clear q0; have t0 := (key_is (wd := wd) (u := ⟨#[105, 110]⟩) (m := 2) (n := 1) hkd (by decide) [105, 110, 50] rfl).trans (HH0.out); have t1 := (key_is (wd := wd) (u := ⟨#[111, 117, 116]⟩) (m := 2) (n := 1) hkd (by decide) [111, 117, 116, 50] rfl).trans (HH1.out); have t2 := (key_is (wd := wd) (u := ⟨#[108, 101, 116]⟩) (m := 4) (n := 1) hkd (by decide) [108, 101, 116, 52] rfl).trans (HH2.out); have t3 := (key_is (wd := wd) (u := ⟨#[116, 114, 97, 100, 101]⟩) (m := 3) (n := 1) hkd (by decide) [116, 114, 97, 100, 101, 51] rfl).trans (HH3.out); have t4 := (key_is (wd := wd) (u := ⟨#[110, 101, 120, 116]⟩) (m := 2) (n := 1) hkd (by decide) [110, 101, 120, 116, 50] rfl).trans (HH4.out); have t5 := (key_is (wd := wd) (u := ⟨#[104, 101, 97, 114]⟩) (m := 1) (n := 1) hkd (by decide) [104, 101, 97, 114, 49] rfl).trans (HH5.out); have t6 := (key_is (wd := wd) (u := ⟨#[108, 111, 115, 101]⟩) (m := 1) (n := 1) hkd (by decide) [108, 111, 115, 101, 49] rfl).trans (HH6.out); have t7 := (key_is (wd := wd) (u := ⟨#[116, 119, 105, 99, 101]⟩) (m := 1) (n := 1) hkd (by decide) [116, 119, 105, 99, 101, 49] rfl).trans (HH7.out); have t8 := (key_is (wd := wd) (u := ⟨#[103, 105, 118, 101]⟩) (m := 1) (n := 1) hkd (by decide) [103, 105, 118, 101, 49] rfl).trans (HH8.out); have hsz : kd.size = 1 := (by rw [hkd]; rfl); have HX4 := Lib.hid (blk_below HX.out hb); have HB4 := Lib.hid (below_step HB.out hb); clear hb HX HB hkd hA4; have HX := HX4; have HB := HB4; clear HX4 HB4; have c0 := (blk_cell HX.out 0).trans (rfl : _ = some (Value.int .i64 0)); have f0 := blk_frozen HX.out 0; have c1 := (blk_cell HX.out 1).trans (rfl : _ = some (Value.int .i64 0)); have f1 := blk_frozen HX.out 1; have c2 := (blk_cell HX.out 2).trans (rfl : _ = some (Value.int .i64 0)); have f2 := blk_frozen HX.out 2; have c3 := (blk_cell HX.out 3).trans (rfl : _ = some (Value.int .i64 0)); have f3 := blk_frozen HX.out 3; have c4 := (blk_cell HX.out 4).trans (rfl : _ = some (Value.int .i64 0)); have f4 := blk_frozen HX.out 4; have c5 := (blk_cell HX.out 5).trans (rfl : _ = some (Value.int .i64 0)); have f5 := blk_frozen HX.out 5; have c6 := (blk_cell HX.out 6).trans (rfl : _ = some (Value.int .i64 0)); have f6 := blk_frozen HX.out 6; have c7 := (blk_cell HX.out 7).trans (rfl : _ = some (Value.int .i64 0)); have f7 := blk_frozen HX.out 7; have c8 := (blk_cell HX.out 8).trans (rfl : _ = some (Value.int .i64 0)); have f8 := blk_frozen HX.out 8; have c9 := (blk_cell HX.out 9).trans (rfl : _ = some (Value.int .i64 0)); have f9 := blk_frozen HX.out 9; have c10 := (blk_cell HX.out 10).trans (rfl : _ = some (Value.int .i64 0)); have f10 := blk_frozen HX.out 10))
  skip
  go_wp2
  have HP := put11 (t := 29) (v0 := .int .i64 (6)) (v1 := .int .i64 (0)) (v2 := .int .i64 (0)) (v3 := .int .i64 (0)) (v4 := .int .i64 (0)) (v5 := .int .i64 (0)) (v6 := .int .i64 (0)) (v7 := .int .i64 (0)) (v8 := .int .i64 (ix 0 a 0)) (v9 := .int .i64 (0)) (v10 := .int .i64 (0)) HX.out HB.out HG.out
  exact bodyPost_ret (results_cell_row rfl _ _ B 29 #[.int .i64 6, .int .i64 0, .int .i64 0, .int .i64 0, .int .i64 0, .int .i64 0, .int .i64 0, .int .i64 0, .int .i64 (ix 0 a 0), .int .i64 0, .int .i64 0] (0, 0) _ rfl HP.1 Tryd.underlying29 rfl (by kernel_rfl)) rfl ⟨rfl, HP.2⟩

set_option maxHeartbeats 4000000 in
theorem l9Read_tick (wd : ByteArray) (hw : wd.size ≤ 4294967280) (a : List Int) (A : Option Addr) (c : Nat) (w : World) (hA : kInt.C w A a.length a) (h0 : dec ((⟨#[105, 110]⟩ : ByteArray) = wd ∧ 2 = a.length) = false) (h1 : dec ((⟨#[111, 117, 116]⟩ : ByteArray) = wd ∧ 2 = a.length) = false) (h2 : dec ((⟨#[108, 101, 116]⟩ : ByteArray) = wd ∧ 4 = a.length) = false) (h3 : dec ((⟨#[116, 114, 97, 100, 101]⟩ : ByteArray) = wd ∧ 3 = a.length) = false) (h4 : dec ((⟨#[110, 101, 120, 116]⟩ : ByteArray) = wd ∧ 2 = a.length) = false) (h5 : dec ((⟨#[104, 101, 97, 114]⟩ : ByteArray) = wd ∧ 1 = a.length) = false) (h6 : dec ((⟨#[108, 111, 115, 101]⟩ : ByteArray) = wd ∧ 1 = a.length) = false) (h7 : dec ((⟨#[116, 119, 105, 99, 101]⟩ : ByteArray) = wd ∧ 1 = a.length) = false) (h8 : dec ((⟨#[103, 105, 118, 101]⟩ : ByteArray) = wd ∧ 1 = a.length) = false) (h9 : dec ((⟨#[116, 105, 99, 107]⟩ : ByteArray) = wd ∧ 1 = a.length) = true) :
    Calls Tryd.prog 24 #[.string wd, .slice A a.length c] w fun e w' => e = .returned (.agg #[.int .i64 5, .int .i64 0, .int .i64 0, .int .i64 0, .int .i64 0, .int .i64 0, .int .i64 0, .int .i64 0, .int .i64 0, .int .i64 (ix 0 a 0), .int .i64 0]) ∧ Below w.heap.size w w' := by
  have hlen : a.length = 1 := (dec_iff.1 h9).2.symm
  have HH0 : Hid (dec ((⟨#[105, 110]⟩ : ByteArray) = wd ∧ 2 = 1) = false) := Lib.hid (hlen ▸ h0)
  have HH1 : Hid (dec ((⟨#[111, 117, 116]⟩ : ByteArray) = wd ∧ 2 = 1) = false) := Lib.hid (hlen ▸ h1)
  have HH2 : Hid (dec ((⟨#[108, 101, 116]⟩ : ByteArray) = wd ∧ 4 = 1) = false) := Lib.hid (hlen ▸ h2)
  have HH3 : Hid (dec ((⟨#[116, 114, 97, 100, 101]⟩ : ByteArray) = wd ∧ 3 = 1) = false) := Lib.hid (hlen ▸ h3)
  have HH4 : Hid (dec ((⟨#[110, 101, 120, 116]⟩ : ByteArray) = wd ∧ 2 = 1) = false) := Lib.hid (hlen ▸ h4)
  have HH5 : Hid (dec ((⟨#[104, 101, 97, 114]⟩ : ByteArray) = wd ∧ 1 = 1) = false) := Lib.hid (hlen ▸ h5)
  have HH6 : Hid (dec ((⟨#[108, 111, 115, 101]⟩ : ByteArray) = wd ∧ 1 = 1) = false) := Lib.hid (hlen ▸ h6)
  have HH7 : Hid (dec ((⟨#[116, 119, 105, 99, 101]⟩ : ByteArray) = wd ∧ 1 = 1) = false) := Lib.hid (hlen ▸ h7)
  have HH8 : Hid (dec ((⟨#[103, 105, 118, 101]⟩ : ByteArray) = wd ∧ 1 = 1) = false) := Lib.hid (hlen ▸ h8)
  have HH9 : Hid (dec ((⟨#[116, 105, 99, 107]⟩ : ByteArray) = wd ∧ 1 = 1) = true) := Lib.hid (hlen ▸ h9)
  rw [hlen] at hA ⊢
  have HA := Lib.hid hA
  clear hA hlen h0 h1 h2 h3 h4 h5 h6 h7 h8 h9
  have HD := Lib.hid (fun W => digitL_any 1 (by decide) W)
  go_enter Tryd.func24, Tryd.ntmps24
  go_wp2_with (first | ((with_reducible refine gate_dst (N := 4) rfl ?_); refine box_event ?hg (N := 4) ?hd (cs := #[.int .i64 0, .int .i64 0, .int .i64 0, .int .i64 0, .int .i64 0, .int .i64 0, .int .i64 0, .int .i64 0, .int .i64 0, .int .i64 0, .int .i64 0]) (t := 29) ?hr ?_; (case hd => rfl); (case hg => rfl); (case hr => first | (go_simp; done) | (go_simp; rfl)); intro B hg w3 hbox hb; have HG := Lib.hid (Nat.le_of_eq hg.symm : w.heap.size ≤ B); have HX := Lib.hid hbox; have HB := Lib.hid hb; clear hbox hb hg) | (go_at_call 29; refine (HD.out _).mono ?_; rintro e w4 ⟨kd, rfl, hkd, hb⟩; have hA4 := Kd.C_below HA.out (below_step HB.out hb); obtain ⟨ad0, hA0, q0⟩ := at_int hA4 0 (by decide); subst hA0; have p0 : w4.cell? ad0 = some (.int .i64 (ix 0 a 0)) := q0; clear q0; have t0 := (key_is (wd := wd) (u := ⟨#[105, 110]⟩) (m := 2) (n := 1) hkd (by decide) [105, 110, 50] rfl).trans (HH0.out); have t1 := (key_is (wd := wd) (u := ⟨#[111, 117, 116]⟩) (m := 2) (n := 1) hkd (by decide) [111, 117, 116, 50] rfl).trans (HH1.out); have t2 := (key_is (wd := wd) (u := ⟨#[108, 101, 116]⟩) (m := 4) (n := 1) hkd (by decide) [108, 101, 116, 52] rfl).trans (HH2.out); have t3 := (key_is (wd := wd) (u := ⟨#[116, 114, 97, 100, 101]⟩) (m := 3) (n := 1) hkd (by decide) [116, 114, 97, 100, 101, 51] rfl).trans (HH3.out); have t4 := (key_is (wd := wd) (u := ⟨#[110, 101, 120, 116]⟩) (m := 2) (n := 1) hkd (by decide) [110, 101, 120, 116, 50] rfl).trans (HH4.out); have t5 := (key_is (wd := wd) (u := ⟨#[104, 101, 97, 114]⟩) (m := 1) (n := 1) hkd (by decide) [104, 101, 97, 114, 49] rfl).trans (HH5.out); have t6 := (key_is (wd := wd) (u := ⟨#[108, 111, 115, 101]⟩) (m := 1) (n := 1) hkd (by decide) [108, 111, 115, 101, 49] rfl).trans (HH6.out); have t7 := (key_is (wd := wd) (u := ⟨#[116, 119, 105, 99, 101]⟩) (m := 1) (n := 1) hkd (by decide) [116, 119, 105, 99, 101, 49] rfl).trans (HH7.out); have t8 := (key_is (wd := wd) (u := ⟨#[103, 105, 118, 101]⟩) (m := 1) (n := 1) hkd (by decide) [103, 105, 118, 101, 49] rfl).trans (HH8.out); have t9 := (key_is (wd := wd) (u := ⟨#[116, 105, 99, 107]⟩) (m := 1) (n := 1) hkd (by decide) [116, 105, 99, 107, 49] rfl).trans (HH9.out); have hsz : kd.size = 1 := (by rw [hkd]; rfl); have HX4 := Lib.hid (blk_below HX.out hb); have HB4 := Lib.hid (below_step HB.out hb); clear hb HX HB hkd hA4; have HX := HX4; have HB := HB4; clear HX4 HB4; have c0 := (blk_cell HX.out 0).trans (rfl : _ = some (Value.int .i64 0)); have f0 := blk_frozen HX.out 0; have c1 := (blk_cell HX.out 1).trans (rfl : _ = some (Value.int .i64 0)); have f1 := blk_frozen HX.out 1; have c2 := (blk_cell HX.out 2).trans (rfl : _ = some (Value.int .i64 0)); have f2 := blk_frozen HX.out 2; have c3 := (blk_cell HX.out 3).trans (rfl : _ = some (Value.int .i64 0)); have f3 := blk_frozen HX.out 3; have c4 := (blk_cell HX.out 4).trans (rfl : _ = some (Value.int .i64 0)); have f4 := blk_frozen HX.out 4; have c5 := (blk_cell HX.out 5).trans (rfl : _ = some (Value.int .i64 0)); have f5 := blk_frozen HX.out 5; have c6 := (blk_cell HX.out 6).trans (rfl : _ = some (Value.int .i64 0)); have f6 := blk_frozen HX.out 6; have c7 := (blk_cell HX.out 7).trans (rfl : _ = some (Value.int .i64 0)); have f7 := blk_frozen HX.out 7; have c8 := (blk_cell HX.out 8).trans (rfl : _ = some (Value.int .i64 0)); have f8 := blk_frozen HX.out 8; have c9 := (blk_cell HX.out 9).trans (rfl : _ = some (Value.int .i64 0)); have f9 := blk_frozen HX.out 9; have c10 := (blk_cell HX.out 10).trans (rfl : _ = some (Value.int .i64 0)); have f10 := blk_frozen HX.out 10))
  skip
  go_wp2
  have HP := put11 (t := 29) (v0 := .int .i64 (5)) (v1 := .int .i64 (0)) (v2 := .int .i64 (0)) (v3 := .int .i64 (0)) (v4 := .int .i64 (0)) (v5 := .int .i64 (0)) (v6 := .int .i64 (0)) (v7 := .int .i64 (0)) (v8 := .int .i64 (0)) (v9 := .int .i64 (ix 0 a 0)) (v10 := .int .i64 (0)) HX.out HB.out HG.out
  exact bodyPost_ret (results_cell_row rfl _ _ B 29 #[.int .i64 5, .int .i64 0, .int .i64 0, .int .i64 0, .int .i64 0, .int .i64 0, .int .i64 0, .int .i64 0, .int .i64 0, .int .i64 (ix 0 a 0), .int .i64 0] (0, 0) _ rfl HP.1 Tryd.underlying29 rfl (by kernel_rfl)) rfl ⟨rfl, HP.2⟩

set_option maxHeartbeats 4000000 in
theorem l9Read_fall (wd : ByteArray) (hw : wd.size ≤ 4294967280) (a : List Int) (A : Option Addr) (c : Nat) (w : World) (hA : kInt.C w A a.length a) (h0 : dec ((⟨#[105, 110]⟩ : ByteArray) = wd ∧ 2 = a.length) = false) (h1 : dec ((⟨#[111, 117, 116]⟩ : ByteArray) = wd ∧ 2 = a.length) = false) (h2 : dec ((⟨#[108, 101, 116]⟩ : ByteArray) = wd ∧ 4 = a.length) = false) (h3 : dec ((⟨#[116, 114, 97, 100, 101]⟩ : ByteArray) = wd ∧ 3 = a.length) = false) (h4 : dec ((⟨#[110, 101, 120, 116]⟩ : ByteArray) = wd ∧ 2 = a.length) = false) (h5 : dec ((⟨#[104, 101, 97, 114]⟩ : ByteArray) = wd ∧ 1 = a.length) = false) (h6 : dec ((⟨#[108, 111, 115, 101]⟩ : ByteArray) = wd ∧ 1 = a.length) = false) (h7 : dec ((⟨#[116, 119, 105, 99, 101]⟩ : ByteArray) = wd ∧ 1 = a.length) = false) (h8 : dec ((⟨#[103, 105, 118, 101]⟩ : ByteArray) = wd ∧ 1 = a.length) = false) (h9 : dec ((⟨#[116, 105, 99, 107]⟩ : ByteArray) = wd ∧ 1 = a.length) = false) (h10 : dec ((⟨#[102, 97, 108, 108]⟩ : ByteArray) = wd ∧ 2 = a.length) = true) :
    Calls Tryd.prog 24 #[.string wd, .slice A a.length c] w fun e w' => e = .returned (.agg #[.int .i64 7, .int .i64 0, .int .i64 0, .int .i64 0, .int .i64 0, .int .i64 0, .int .i64 0, .int .i64 0, .int .i64 0, .int .i64 (ix 0 a 0), .int .i64 (ix 0 a 1)]) ∧ Below w.heap.size w w' := by
  have hlen : a.length = 2 := (dec_iff.1 h10).2.symm
  have HH0 : Hid (dec ((⟨#[105, 110]⟩ : ByteArray) = wd ∧ 2 = 2) = false) := Lib.hid (hlen ▸ h0)
  have HH1 : Hid (dec ((⟨#[111, 117, 116]⟩ : ByteArray) = wd ∧ 2 = 2) = false) := Lib.hid (hlen ▸ h1)
  have HH2 : Hid (dec ((⟨#[108, 101, 116]⟩ : ByteArray) = wd ∧ 4 = 2) = false) := Lib.hid (hlen ▸ h2)
  have HH3 : Hid (dec ((⟨#[116, 114, 97, 100, 101]⟩ : ByteArray) = wd ∧ 3 = 2) = false) := Lib.hid (hlen ▸ h3)
  have HH4 : Hid (dec ((⟨#[110, 101, 120, 116]⟩ : ByteArray) = wd ∧ 2 = 2) = false) := Lib.hid (hlen ▸ h4)
  have HH5 : Hid (dec ((⟨#[104, 101, 97, 114]⟩ : ByteArray) = wd ∧ 1 = 2) = false) := Lib.hid (hlen ▸ h5)
  have HH6 : Hid (dec ((⟨#[108, 111, 115, 101]⟩ : ByteArray) = wd ∧ 1 = 2) = false) := Lib.hid (hlen ▸ h6)
  have HH7 : Hid (dec ((⟨#[116, 119, 105, 99, 101]⟩ : ByteArray) = wd ∧ 1 = 2) = false) := Lib.hid (hlen ▸ h7)
  have HH8 : Hid (dec ((⟨#[103, 105, 118, 101]⟩ : ByteArray) = wd ∧ 1 = 2) = false) := Lib.hid (hlen ▸ h8)
  have HH9 : Hid (dec ((⟨#[116, 105, 99, 107]⟩ : ByteArray) = wd ∧ 1 = 2) = false) := Lib.hid (hlen ▸ h9)
  have HH10 : Hid (dec ((⟨#[102, 97, 108, 108]⟩ : ByteArray) = wd ∧ 2 = 2) = true) := Lib.hid (hlen ▸ h10)
  rw [hlen] at hA ⊢
  have HA := Lib.hid hA
  clear hA hlen h0 h1 h2 h3 h4 h5 h6 h7 h8 h9 h10
  have HD := Lib.hid (fun W => digitL_any 2 (by decide) W)
  go_enter Tryd.func24, Tryd.ntmps24
  go_wp2_with (first | ((with_reducible refine gate_dst (N := 4) rfl ?_); refine box_event ?hg (N := 4) ?hd (cs := #[.int .i64 0, .int .i64 0, .int .i64 0, .int .i64 0, .int .i64 0, .int .i64 0, .int .i64 0, .int .i64 0, .int .i64 0, .int .i64 0, .int .i64 0]) (t := 29) ?hr ?_; (case hd => rfl); (case hg => rfl); (case hr => first | (go_simp; done) | (go_simp; rfl)); intro B hg w3 hbox hb; have HG := Lib.hid (Nat.le_of_eq hg.symm : w.heap.size ≤ B); have HX := Lib.hid hbox; have HB := Lib.hid hb; clear hbox hb hg) | (go_at_call 29; refine (HD.out _).mono ?_; rintro e w4 ⟨kd, rfl, hkd, hb⟩; have hA4 := Kd.C_below HA.out (below_step HB.out hb); obtain ⟨ad0, hA0, q0⟩ := at_int hA4 0 (by decide); obtain ⟨ad1, hA1, q1⟩ := at_int hA4 1 (by decide); subst hA0; obtain rfl := Option.some.inj hA1; have p0 : w4.cell? ad0 = some (.int .i64 (ix 0 a 0)) := q0; have p1 : w4.cell? ⟨ad0.block, ad0.off + 1, none⟩ = some (.int .i64 (ix 0 a 1)) := q1; clear q0 q1; have t0 := (key_is (wd := wd) (u := ⟨#[105, 110]⟩) (m := 2) (n := 2) hkd (by decide) [105, 110, 50] rfl).trans (HH0.out); have t1 := (key_is (wd := wd) (u := ⟨#[111, 117, 116]⟩) (m := 2) (n := 2) hkd (by decide) [111, 117, 116, 50] rfl).trans (HH1.out); have t2 := (key_is (wd := wd) (u := ⟨#[108, 101, 116]⟩) (m := 4) (n := 2) hkd (by decide) [108, 101, 116, 52] rfl).trans (HH2.out); have t3 := (key_is (wd := wd) (u := ⟨#[116, 114, 97, 100, 101]⟩) (m := 3) (n := 2) hkd (by decide) [116, 114, 97, 100, 101, 51] rfl).trans (HH3.out); have t4 := (key_is (wd := wd) (u := ⟨#[110, 101, 120, 116]⟩) (m := 2) (n := 2) hkd (by decide) [110, 101, 120, 116, 50] rfl).trans (HH4.out); have t5 := (key_is (wd := wd) (u := ⟨#[104, 101, 97, 114]⟩) (m := 1) (n := 2) hkd (by decide) [104, 101, 97, 114, 49] rfl).trans (HH5.out); have t6 := (key_is (wd := wd) (u := ⟨#[108, 111, 115, 101]⟩) (m := 1) (n := 2) hkd (by decide) [108, 111, 115, 101, 49] rfl).trans (HH6.out); have t7 := (key_is (wd := wd) (u := ⟨#[116, 119, 105, 99, 101]⟩) (m := 1) (n := 2) hkd (by decide) [116, 119, 105, 99, 101, 49] rfl).trans (HH7.out); have t8 := (key_is (wd := wd) (u := ⟨#[103, 105, 118, 101]⟩) (m := 1) (n := 2) hkd (by decide) [103, 105, 118, 101, 49] rfl).trans (HH8.out); have t9 := (key_is (wd := wd) (u := ⟨#[116, 105, 99, 107]⟩) (m := 1) (n := 2) hkd (by decide) [116, 105, 99, 107, 49] rfl).trans (HH9.out); have t10 := (key_is (wd := wd) (u := ⟨#[102, 97, 108, 108]⟩) (m := 2) (n := 2) hkd (by decide) [102, 97, 108, 108, 50] rfl).trans (HH10.out); have hsz : kd.size = 1 := (by rw [hkd]; rfl); have HX4 := Lib.hid (blk_below HX.out hb); have HB4 := Lib.hid (below_step HB.out hb); clear hb HX HB hkd hA4; have HX := HX4; have HB := HB4; clear HX4 HB4; have c0 := (blk_cell HX.out 0).trans (rfl : _ = some (Value.int .i64 0)); have f0 := blk_frozen HX.out 0; have c1 := (blk_cell HX.out 1).trans (rfl : _ = some (Value.int .i64 0)); have f1 := blk_frozen HX.out 1; have c2 := (blk_cell HX.out 2).trans (rfl : _ = some (Value.int .i64 0)); have f2 := blk_frozen HX.out 2; have c3 := (blk_cell HX.out 3).trans (rfl : _ = some (Value.int .i64 0)); have f3 := blk_frozen HX.out 3; have c4 := (blk_cell HX.out 4).trans (rfl : _ = some (Value.int .i64 0)); have f4 := blk_frozen HX.out 4; have c5 := (blk_cell HX.out 5).trans (rfl : _ = some (Value.int .i64 0)); have f5 := blk_frozen HX.out 5; have c6 := (blk_cell HX.out 6).trans (rfl : _ = some (Value.int .i64 0)); have f6 := blk_frozen HX.out 6; have c7 := (blk_cell HX.out 7).trans (rfl : _ = some (Value.int .i64 0)); have f7 := blk_frozen HX.out 7; have c8 := (blk_cell HX.out 8).trans (rfl : _ = some (Value.int .i64 0)); have f8 := blk_frozen HX.out 8; have c9 := (blk_cell HX.out 9).trans (rfl : _ = some (Value.int .i64 0)); have f9 := blk_frozen HX.out 9; have c10 := (blk_cell HX.out 10).trans (rfl : _ = some (Value.int .i64 0)); have f10 := blk_frozen HX.out 10))
  go_region
  go_wp2
  have HP := put11 (t := 29) (v0 := .int .i64 (7)) (v1 := .int .i64 (0)) (v2 := .int .i64 (0)) (v3 := .int .i64 (0)) (v4 := .int .i64 (0)) (v5 := .int .i64 (0)) (v6 := .int .i64 (0)) (v7 := .int .i64 (0)) (v8 := .int .i64 (0)) (v9 := .int .i64 (ix 0 a 0)) (v10 := .int .i64 (ix 0 a 1)) HX.out HB.out HG.out
  exact bodyPost_ret (results_cell_row rfl _ _ B 29 #[.int .i64 7, .int .i64 0, .int .i64 0, .int .i64 0, .int .i64 0, .int .i64 0, .int .i64 0, .int .i64 0, .int .i64 0, .int .i64 (ix 0 a 0), .int .i64 (ix 0 a 1)] (0, 0) _ rfl (blk_drew HP.1) Tryd.underlying29 rfl (by kernel_rfl)) rfl ⟨rfl, below_drew1 HP.2⟩

set_option maxHeartbeats 4000000 in
theorem l9Read_none (wd : ByteArray) (hw : wd.size ≤ 4294967280) (a : List Int) (A : Option Addr) (c : Nat) (w : World) (hA : kInt.C w A a.length a) (h0 : dec ((⟨#[105, 110]⟩ : ByteArray) = wd ∧ 2 = a.length) = false) (h1 : dec ((⟨#[111, 117, 116]⟩ : ByteArray) = wd ∧ 2 = a.length) = false) (h2 : dec ((⟨#[108, 101, 116]⟩ : ByteArray) = wd ∧ 4 = a.length) = false) (h3 : dec ((⟨#[116, 114, 97, 100, 101]⟩ : ByteArray) = wd ∧ 3 = a.length) = false) (h4 : dec ((⟨#[110, 101, 120, 116]⟩ : ByteArray) = wd ∧ 2 = a.length) = false) (h5 : dec ((⟨#[104, 101, 97, 114]⟩ : ByteArray) = wd ∧ 1 = a.length) = false) (h6 : dec ((⟨#[108, 111, 115, 101]⟩ : ByteArray) = wd ∧ 1 = a.length) = false) (h7 : dec ((⟨#[116, 119, 105, 99, 101]⟩ : ByteArray) = wd ∧ 1 = a.length) = false) (h8 : dec ((⟨#[103, 105, 118, 101]⟩ : ByteArray) = wd ∧ 1 = a.length) = false) (h9 : dec ((⟨#[116, 105, 99, 107]⟩ : ByteArray) = wd ∧ 1 = a.length) = false) (h10 : dec ((⟨#[102, 97, 108, 108]⟩ : ByteArray) = wd ∧ 2 = a.length) = false) :
    Calls Tryd.prog 24 #[.string wd, .slice A a.length c] w fun e w' => e = .returned (.agg #[.int .i64 0, .int .i64 0, .int .i64 0, .int .i64 0, .int .i64 0, .int .i64 0, .int .i64 0, .int .i64 0, .int .i64 0, .int .i64 0, .int .i64 0]) ∧ Below w.heap.size w w' := by
  have HH0 := Lib.hid h0
  have HH1 := Lib.hid h1
  have HH2 := Lib.hid h2
  have HH3 := Lib.hid h3
  have HH4 := Lib.hid h4
  have HH5 := Lib.hid h5
  have HH6 := Lib.hid h6
  have HH7 := Lib.hid h7
  have HH8 := Lib.hid h8
  have HH9 := Lib.hid h9
  have HH10 := Lib.hid h10
  clear hA h0 h1 h2 h3 h4 h5 h6 h7 h8 h9 h10
  by_cases hm : a.length < 9
  · have HD := Lib.hid (fun W => digitA_any a.length hm W)
    go_enter Tryd.func24, Tryd.ntmps24
    go_wp2_with (first | ((with_reducible refine gate_dst (N := 4) rfl ?_); refine box_event ?hg (N := 4) ?hd (cs := #[.int .i64 0, .int .i64 0, .int .i64 0, .int .i64 0, .int .i64 0, .int .i64 0, .int .i64 0, .int .i64 0, .int .i64 0, .int .i64 0, .int .i64 0]) (t := 29) ?hr ?_; (case hd => rfl); (case hg => rfl); (case hr => first | (go_simp; done) | (go_simp; rfl)); intro B hg w3 hbox hb; have HG := Lib.hid (Nat.le_of_eq hg.symm : w.heap.size ≤ B); have HX := Lib.hid hbox; have HB := Lib.hid hb; clear hbox hb hg) | (go_at_call 29; refine (HD.out _).mono ?_; rintro e w4 ⟨kd, rfl, hkd, hb⟩; have t0 := (key_is (wd := wd) (u := ⟨#[105, 110]⟩) (m := 2) (n := a.length) hkd (by decide) [105, 110, 50] rfl).trans (HH0.out); have t1 := (key_is (wd := wd) (u := ⟨#[111, 117, 116]⟩) (m := 2) (n := a.length) hkd (by decide) [111, 117, 116, 50] rfl).trans (HH1.out); have t2 := (key_is (wd := wd) (u := ⟨#[108, 101, 116]⟩) (m := 4) (n := a.length) hkd (by decide) [108, 101, 116, 52] rfl).trans (HH2.out); have t3 := (key_is (wd := wd) (u := ⟨#[116, 114, 97, 100, 101]⟩) (m := 3) (n := a.length) hkd (by decide) [116, 114, 97, 100, 101, 51] rfl).trans (HH3.out); have t4 := (key_is (wd := wd) (u := ⟨#[110, 101, 120, 116]⟩) (m := 2) (n := a.length) hkd (by decide) [110, 101, 120, 116, 50] rfl).trans (HH4.out); have t5 := (key_is (wd := wd) (u := ⟨#[104, 101, 97, 114]⟩) (m := 1) (n := a.length) hkd (by decide) [104, 101, 97, 114, 49] rfl).trans (HH5.out); have t6 := (key_is (wd := wd) (u := ⟨#[108, 111, 115, 101]⟩) (m := 1) (n := a.length) hkd (by decide) [108, 111, 115, 101, 49] rfl).trans (HH6.out); have t7 := (key_is (wd := wd) (u := ⟨#[116, 119, 105, 99, 101]⟩) (m := 1) (n := a.length) hkd (by decide) [116, 119, 105, 99, 101, 49] rfl).trans (HH7.out); have t8 := (key_is (wd := wd) (u := ⟨#[103, 105, 118, 101]⟩) (m := 1) (n := a.length) hkd (by decide) [103, 105, 118, 101, 49] rfl).trans (HH8.out); have t9 := (key_is (wd := wd) (u := ⟨#[116, 105, 99, 107]⟩) (m := 1) (n := a.length) hkd (by decide) [116, 105, 99, 107, 49] rfl).trans (HH9.out); have t10 := (key_is (wd := wd) (u := ⟨#[102, 97, 108, 108]⟩) (m := 2) (n := a.length) hkd (by decide) [102, 97, 108, 108, 50] rfl).trans (HH10.out); have hsz : kd.size = 1 := (by rw [hkd]; rfl); have HX4 := Lib.hid (blk_below HX.out hb); have HB4 := Lib.hid (below_step HB.out hb); clear hb HX HB hkd; have HX := HX4; have HB := HB4; clear HX4 HB4; have c0 := (blk_cell HX.out 0).trans (rfl : _ = some (Value.int .i64 0)); have f0 := blk_frozen HX.out 0; have c1 := (blk_cell HX.out 1).trans (rfl : _ = some (Value.int .i64 0)); have f1 := blk_frozen HX.out 1; have c2 := (blk_cell HX.out 2).trans (rfl : _ = some (Value.int .i64 0)); have f2 := blk_frozen HX.out 2; have c3 := (blk_cell HX.out 3).trans (rfl : _ = some (Value.int .i64 0)); have f3 := blk_frozen HX.out 3; have c4 := (blk_cell HX.out 4).trans (rfl : _ = some (Value.int .i64 0)); have f4 := blk_frozen HX.out 4; have c5 := (blk_cell HX.out 5).trans (rfl : _ = some (Value.int .i64 0)); have f5 := blk_frozen HX.out 5; have c6 := (blk_cell HX.out 6).trans (rfl : _ = some (Value.int .i64 0)); have f6 := blk_frozen HX.out 6; have c7 := (blk_cell HX.out 7).trans (rfl : _ = some (Value.int .i64 0)); have f7 := blk_frozen HX.out 7; have c8 := (blk_cell HX.out 8).trans (rfl : _ = some (Value.int .i64 0)); have f8 := blk_frozen HX.out 8; have c9 := (blk_cell HX.out 9).trans (rfl : _ = some (Value.int .i64 0)); have f9 := blk_frozen HX.out 9; have c10 := (blk_cell HX.out 10).trans (rfl : _ = some (Value.int .i64 0)); have f10 := blk_frozen HX.out 10))
    have HP := put11 (t := 29) (v0 := .int .i64 0) (v1 := .int .i64 0) (v2 := .int .i64 0) (v3 := .int .i64 0) (v4 := .int .i64 0) (v5 := .int .i64 0) (v6 := .int .i64 0) (v7 := .int .i64 0) (v8 := .int .i64 0) (v9 := .int .i64 0) (v10 := .int .i64 0) HX.out HB.out HG.out
    exact bodyPost_ret (results_cell_row rfl _ _ B 29 #[.int .i64 0, .int .i64 0, .int .i64 0, .int .i64 0, .int .i64 0, .int .i64 0, .int .i64 0, .int .i64 0, .int .i64 0, .int .i64 0, .int .i64 0] (0, 0) _ rfl HP.1 Tryd.underlying29 rfl (by kernel_rfl)) rfl ⟨rfl, HP.2⟩
  · have HD := Lib.hid (fun W => digitB_any a.length (by omega) W)
    go_enter Tryd.func24, Tryd.ntmps24
    go_wp2_with (first | ((with_reducible refine gate_dst (N := 4) rfl ?_); refine box_event ?hg (N := 4) ?hd (cs := #[.int .i64 0, .int .i64 0, .int .i64 0, .int .i64 0, .int .i64 0, .int .i64 0, .int .i64 0, .int .i64 0, .int .i64 0, .int .i64 0, .int .i64 0]) (t := 29) ?hr ?_; (case hd => rfl); (case hg => rfl); (case hr => first | (go_simp; done) | (go_simp; rfl)); intro B hg w3 hbox hb; have HG := Lib.hid (Nat.le_of_eq hg.symm : w.heap.size ≤ B); have HX := Lib.hid hbox; have HB := Lib.hid hb; clear hbox hb hg) | (go_at_call 29; refine (HD.out _).mono ?_; rintro e w4 ⟨kd, rfl, hkd, hb⟩; have t0 := (key_is (wd := wd) (u := ⟨#[105, 110]⟩) (m := 2) (n := a.length) hkd (by decide) [105, 110, 50] rfl).trans (HH0.out); have t1 := (key_is (wd := wd) (u := ⟨#[111, 117, 116]⟩) (m := 2) (n := a.length) hkd (by decide) [111, 117, 116, 50] rfl).trans (HH1.out); have t2 := (key_is (wd := wd) (u := ⟨#[108, 101, 116]⟩) (m := 4) (n := a.length) hkd (by decide) [108, 101, 116, 52] rfl).trans (HH2.out); have t3 := (key_is (wd := wd) (u := ⟨#[116, 114, 97, 100, 101]⟩) (m := 3) (n := a.length) hkd (by decide) [116, 114, 97, 100, 101, 51] rfl).trans (HH3.out); have t4 := (key_is (wd := wd) (u := ⟨#[110, 101, 120, 116]⟩) (m := 2) (n := a.length) hkd (by decide) [110, 101, 120, 116, 50] rfl).trans (HH4.out); have t5 := (key_is (wd := wd) (u := ⟨#[104, 101, 97, 114]⟩) (m := 1) (n := a.length) hkd (by decide) [104, 101, 97, 114, 49] rfl).trans (HH5.out); have t6 := (key_is (wd := wd) (u := ⟨#[108, 111, 115, 101]⟩) (m := 1) (n := a.length) hkd (by decide) [108, 111, 115, 101, 49] rfl).trans (HH6.out); have t7 := (key_is (wd := wd) (u := ⟨#[116, 119, 105, 99, 101]⟩) (m := 1) (n := a.length) hkd (by decide) [116, 119, 105, 99, 101, 49] rfl).trans (HH7.out); have t8 := (key_is (wd := wd) (u := ⟨#[103, 105, 118, 101]⟩) (m := 1) (n := a.length) hkd (by decide) [103, 105, 118, 101, 49] rfl).trans (HH8.out); have t9 := (key_is (wd := wd) (u := ⟨#[116, 105, 99, 107]⟩) (m := 1) (n := a.length) hkd (by decide) [116, 105, 99, 107, 49] rfl).trans (HH9.out); have t10 := (key_is (wd := wd) (u := ⟨#[102, 97, 108, 108]⟩) (m := 2) (n := a.length) hkd (by decide) [102, 97, 108, 108, 50] rfl).trans (HH10.out); have hsz : kd.size = 1 := (by rw [hkd]; rfl); have HX4 := Lib.hid (blk_below HX.out hb); have HB4 := Lib.hid (below_step HB.out hb); clear hb HX HB hkd; have HX := HX4; have HB := HB4; clear HX4 HB4; have c0 := (blk_cell HX.out 0).trans (rfl : _ = some (Value.int .i64 0)); have f0 := blk_frozen HX.out 0; have c1 := (blk_cell HX.out 1).trans (rfl : _ = some (Value.int .i64 0)); have f1 := blk_frozen HX.out 1; have c2 := (blk_cell HX.out 2).trans (rfl : _ = some (Value.int .i64 0)); have f2 := blk_frozen HX.out 2; have c3 := (blk_cell HX.out 3).trans (rfl : _ = some (Value.int .i64 0)); have f3 := blk_frozen HX.out 3; have c4 := (blk_cell HX.out 4).trans (rfl : _ = some (Value.int .i64 0)); have f4 := blk_frozen HX.out 4; have c5 := (blk_cell HX.out 5).trans (rfl : _ = some (Value.int .i64 0)); have f5 := blk_frozen HX.out 5; have c6 := (blk_cell HX.out 6).trans (rfl : _ = some (Value.int .i64 0)); have f6 := blk_frozen HX.out 6; have c7 := (blk_cell HX.out 7).trans (rfl : _ = some (Value.int .i64 0)); have f7 := blk_frozen HX.out 7; have c8 := (blk_cell HX.out 8).trans (rfl : _ = some (Value.int .i64 0)); have f8 := blk_frozen HX.out 8; have c9 := (blk_cell HX.out 9).trans (rfl : _ = some (Value.int .i64 0)); have f9 := blk_frozen HX.out 9; have c10 := (blk_cell HX.out 10).trans (rfl : _ = some (Value.int .i64 0)); have f10 := blk_frozen HX.out 10))
    have HP := put11 (t := 29) (v0 := .int .i64 0) (v1 := .int .i64 0) (v2 := .int .i64 0) (v3 := .int .i64 0) (v4 := .int .i64 0) (v5 := .int .i64 0) (v6 := .int .i64 0) (v7 := .int .i64 0) (v8 := .int .i64 0) (v9 := .int .i64 0) (v10 := .int .i64 0) HX.out HB.out HG.out
    exact bodyPost_ret (results_cell_row rfl _ _ B 29 #[.int .i64 0, .int .i64 0, .int .i64 0, .int .i64 0, .int .i64 0, .int .i64 0, .int .i64 0, .int .i64 0, .int .i64 0, .int .i64 0, .int .i64 0] (0, 0) _ rfl HP.1 Tryd.underlying29 rfl (by kernel_rfl)) rfl ⟨rfl, HP.2⟩

theorem readEv_in (wd : ByteArray) (a : List Int) (h : (⟨#[105, 110]⟩ : ByteArray) = wd ∧ 2 = a.length) : readEv wd a = ⟨1, ⟨1, ix 0 a 0, ix 0 a 1, 0, 0, 0, 0⟩, 0, 0, 0⟩ := by
  obtain ⟨rfl, h⟩ := h
  unfold readEv
  simp only [manners, List.find?_cons, List.find?_nil]
  simp [dec_iff, dec_false, dec_true, ← h, fillM, List.findIdx?_cons]
theorem readEv_out (wd : ByteArray) (a : List Int) (h : (⟨#[111, 117, 116]⟩ : ByteArray) = wd ∧ 2 = a.length) : readEv wd a = ⟨1, ⟨5, ix 0 a 0, ix 0 a 1, 0, 0, 0, 0⟩, 0, 0, 0⟩ := by
  obtain ⟨rfl, h⟩ := h
  unfold readEv
  simp only [manners, List.find?_cons, List.find?_nil]
  simp [dec_iff, dec_false, dec_true, ← h, fillM, List.findIdx?_cons]
theorem readEv_let (wd : ByteArray) (a : List Int) (h : (⟨#[108, 101, 116]⟩ : ByteArray) = wd ∧ 4 = a.length) : readEv wd a = ⟨1, ⟨2, ix 0 a 0, ix 0 a 1, ix 0 a 2, ix 0 a 3, 0, 0⟩, 0, 0, 0⟩ := by
  obtain ⟨rfl, h⟩ := h
  unfold readEv
  simp only [manners, List.find?_cons, List.find?_nil]
  simp [dec_iff, dec_false, dec_true, ← h, fillM, List.findIdx?_cons]
theorem readEv_trade (wd : ByteArray) (a : List Int) (h : (⟨#[116, 114, 97, 100, 101]⟩ : ByteArray) = wd ∧ 3 = a.length) : readEv wd a = ⟨1, ⟨3, 0, 0, ix 0 a 0, ix 0 a 1, ix 0 a 2, 0⟩, 0, 0, 0⟩ := by
  obtain ⟨rfl, h⟩ := h
  unfold readEv
  simp only [manners, List.find?_cons, List.find?_nil]
  simp [dec_iff, dec_false, dec_true, ← h, fillM, List.findIdx?_cons]
theorem readEv_next (wd : ByteArray) (a : List Int) (h : (⟨#[110, 101, 120, 116]⟩ : ByteArray) = wd ∧ 2 = a.length) : readEv wd a = ⟨1, ⟨4, 0, 0, 0, 0, ix 0 a 0, ix 0 a 1⟩, 0, 0, 0⟩ := by
  obtain ⟨rfl, h⟩ := h
  unfold readEv
  simp only [manners, List.find?_cons, List.find?_nil]
  simp [dec_iff, dec_false, dec_true, ← h, fillM, List.findIdx?_cons]
theorem readEv_hear (wd : ByteArray) (a : List Int) (h : (⟨#[104, 101, 97, 114]⟩ : ByteArray) = wd ∧ 1 = a.length) : readEv wd a = ⟨2, ⟨0, 0, 0, 0, 0, 0, 0⟩, ix 0 a 0, 0, 0⟩ := by
  obtain ⟨rfl, h⟩ := h
  unfold readEv
  simp only [manners, List.find?_cons, List.find?_nil]
  simp [dec_iff, dec_false, dec_true, ← h, fillM, List.findIdx?_cons]
theorem readEv_lose (wd : ByteArray) (a : List Int) (h : (⟨#[108, 111, 115, 101]⟩ : ByteArray) = wd ∧ 1 = a.length) : readEv wd a = ⟨3, ⟨0, 0, 0, 0, 0, 0, 0⟩, ix 0 a 0, 0, 0⟩ := by
  obtain ⟨rfl, h⟩ := h
  unfold readEv
  simp only [manners, List.find?_cons, List.find?_nil]
  simp [dec_iff, dec_false, dec_true, ← h, fillM, List.findIdx?_cons]
theorem readEv_twice (wd : ByteArray) (a : List Int) (h : (⟨#[116, 119, 105, 99, 101]⟩ : ByteArray) = wd ∧ 1 = a.length) : readEv wd a = ⟨4, ⟨0, 0, 0, 0, 0, 0, 0⟩, ix 0 a 0, 0, 0⟩ := by
  obtain ⟨rfl, h⟩ := h
  unfold readEv
  simp only [manners, List.find?_cons, List.find?_nil]
  simp [dec_iff, dec_false, dec_true, ← h, fillM, List.findIdx?_cons]
theorem readEv_give (wd : ByteArray) (a : List Int) (h : (⟨#[103, 105, 118, 101]⟩ : ByteArray) = wd ∧ 1 = a.length) : readEv wd a = ⟨6, ⟨0, 0, 0, 0, 0, 0, 0⟩, ix 0 a 0, 0, 0⟩ := by
  obtain ⟨rfl, h⟩ := h
  unfold readEv
  simp only [manners, List.find?_cons, List.find?_nil]
  simp [dec_iff, dec_false, dec_true, ← h, fillM, List.findIdx?_cons]
theorem readEv_tick (wd : ByteArray) (a : List Int) (h : (⟨#[116, 105, 99, 107]⟩ : ByteArray) = wd ∧ 1 = a.length) : readEv wd a = ⟨5, ⟨0, 0, 0, 0, 0, 0, 0⟩, 0, ix 0 a 0, 0⟩ := by
  obtain ⟨rfl, h⟩ := h
  unfold readEv
  simp only [manners, List.find?_cons, List.find?_nil]
  simp [dec_iff, dec_false, dec_true, ← h, fillM, List.findIdx?_cons]
theorem readEv_fall (wd : ByteArray) (a : List Int) (h : (⟨#[102, 97, 108, 108]⟩ : ByteArray) = wd ∧ 2 = a.length) : readEv wd a = ⟨7, ⟨0, 0, 0, 0, 0, 0, 0⟩, 0, ix 0 a 0, ix 0 a 1⟩ := by
  obtain ⟨rfl, h⟩ := h
  unfold readEv
  simp only [manners, List.find?_cons, List.find?_nil]
  simp [dec_iff, dec_false, dec_true, ← h, fillM, List.findIdx?_cons]
theorem readEv_none (wd : ByteArray) (a : List Int) (h0 : ¬ ((⟨#[105, 110]⟩ : ByteArray) = wd ∧ 2 = a.length)) (h1 : ¬ ((⟨#[111, 117, 116]⟩ : ByteArray) = wd ∧ 2 = a.length)) (h2 : ¬ ((⟨#[108, 101, 116]⟩ : ByteArray) = wd ∧ 4 = a.length)) (h3 : ¬ ((⟨#[116, 114, 97, 100, 101]⟩ : ByteArray) = wd ∧ 3 = a.length)) (h4 : ¬ ((⟨#[110, 101, 120, 116]⟩ : ByteArray) = wd ∧ 2 = a.length)) (h5 : ¬ ((⟨#[104, 101, 97, 114]⟩ : ByteArray) = wd ∧ 1 = a.length)) (h6 : ¬ ((⟨#[108, 111, 115, 101]⟩ : ByteArray) = wd ∧ 1 = a.length)) (h7 : ¬ ((⟨#[116, 119, 105, 99, 101]⟩ : ByteArray) = wd ∧ 1 = a.length)) (h8 : ¬ ((⟨#[103, 105, 118, 101]⟩ : ByteArray) = wd ∧ 1 = a.length)) (h9 : ¬ ((⟨#[116, 105, 99, 107]⟩ : ByteArray) = wd ∧ 1 = a.length)) (h10 : ¬ ((⟨#[102, 97, 108, 108]⟩ : ByteArray) = wd ∧ 2 = a.length)) : readEv wd a = evZero := by
  unfold readEv
  have hn : manners.find? (fun m => dec (m.word = wd ∧ m.offs.length = a.length)) = none := by
    rw [List.find?_eq_none]
    intro m hm
    simp only [manners, List.mem_cons, List.not_mem_nil, or_false] at hm
    rcases hm with rfl | rfl | rfl | rfl | rfl | rfl | rfl | rfl | rfl | rfl | rfl
    · exact fun e => h0 (dec_iff.1 e)
    · exact fun e => h2 (dec_iff.1 e)
    · exact fun e => h3 (dec_iff.1 e)
    · exact fun e => h4 (dec_iff.1 e)
    · exact fun e => h1 (dec_iff.1 e)
    · exact fun e => h5 (dec_iff.1 e)
    · exact fun e => h6 (dec_iff.1 e)
    · exact fun e => h7 (dec_iff.1 e)
    · exact fun e => h8 (dec_iff.1 e)
    · exact fun e => h9 (dec_iff.1 e)
    · exact fun e => h10 (dec_iff.1 e)
  rw [hn]

theorem l9Read_any (wd : ByteArray) (hw : wd.size ≤ 4294967280) (a : List Int) (A : Option Addr) (c : Nat) (w : World) (hA : kInt.C w A a.length a) :
    Calls Tryd.prog 24 #[.string wd, .slice A a.length c] w fun e w' => e = .returned (readEv wd a).val ∧ Below w.heap.size w w' := by
  rcases Bool.eq_false_or_eq_true (dec ((⟨#[105, 110]⟩ : ByteArray) = wd ∧ 2 = a.length)) with h0 | h0
  · rw [readEv_in wd a (dec_iff.1 h0)]
    exact l9Read_in wd hw a A c w hA h0
  rcases Bool.eq_false_or_eq_true (dec ((⟨#[111, 117, 116]⟩ : ByteArray) = wd ∧ 2 = a.length)) with h1 | h1
  · rw [readEv_out wd a (dec_iff.1 h1)]
    exact l9Read_out wd hw a A c w hA h0 h1
  rcases Bool.eq_false_or_eq_true (dec ((⟨#[108, 101, 116]⟩ : ByteArray) = wd ∧ 4 = a.length)) with h2 | h2
  · rw [readEv_let wd a (dec_iff.1 h2)]
    exact l9Read_let wd hw a A c w hA h0 h1 h2
  rcases Bool.eq_false_or_eq_true (dec ((⟨#[116, 114, 97, 100, 101]⟩ : ByteArray) = wd ∧ 3 = a.length)) with h3 | h3
  · rw [readEv_trade wd a (dec_iff.1 h3)]
    exact l9Read_trade wd hw a A c w hA h0 h1 h2 h3
  rcases Bool.eq_false_or_eq_true (dec ((⟨#[110, 101, 120, 116]⟩ : ByteArray) = wd ∧ 2 = a.length)) with h4 | h4
  · rw [readEv_next wd a (dec_iff.1 h4)]
    exact l9Read_next wd hw a A c w hA h0 h1 h2 h3 h4
  rcases Bool.eq_false_or_eq_true (dec ((⟨#[104, 101, 97, 114]⟩ : ByteArray) = wd ∧ 1 = a.length)) with h5 | h5
  · rw [readEv_hear wd a (dec_iff.1 h5)]
    exact l9Read_hear wd hw a A c w hA h0 h1 h2 h3 h4 h5
  rcases Bool.eq_false_or_eq_true (dec ((⟨#[108, 111, 115, 101]⟩ : ByteArray) = wd ∧ 1 = a.length)) with h6 | h6
  · rw [readEv_lose wd a (dec_iff.1 h6)]
    exact l9Read_lose wd hw a A c w hA h0 h1 h2 h3 h4 h5 h6
  rcases Bool.eq_false_or_eq_true (dec ((⟨#[116, 119, 105, 99, 101]⟩ : ByteArray) = wd ∧ 1 = a.length)) with h7 | h7
  · rw [readEv_twice wd a (dec_iff.1 h7)]
    exact l9Read_twice wd hw a A c w hA h0 h1 h2 h3 h4 h5 h6 h7
  rcases Bool.eq_false_or_eq_true (dec ((⟨#[103, 105, 118, 101]⟩ : ByteArray) = wd ∧ 1 = a.length)) with h8 | h8
  · rw [readEv_give wd a (dec_iff.1 h8)]
    exact l9Read_give wd hw a A c w hA h0 h1 h2 h3 h4 h5 h6 h7 h8
  rcases Bool.eq_false_or_eq_true (dec ((⟨#[116, 105, 99, 107]⟩ : ByteArray) = wd ∧ 1 = a.length)) with h9 | h9
  · rw [readEv_tick wd a (dec_iff.1 h9)]
    exact l9Read_tick wd hw a A c w hA h0 h1 h2 h3 h4 h5 h6 h7 h8 h9
  rcases Bool.eq_false_or_eq_true (dec ((⟨#[102, 97, 108, 108]⟩ : ByteArray) = wd ∧ 2 = a.length)) with h10 | h10
  · rw [readEv_fall wd a (dec_iff.1 h10)]
    exact l9Read_fall wd hw a A c w hA h0 h1 h2 h3 h4 h5 h6 h7 h8 h9 h10
  rw [readEv_none wd a (dec_iff_false.1 h0) (dec_iff_false.1 h1) (dec_iff_false.1 h2) (dec_iff_false.1 h3) (dec_iff_false.1 h4) (dec_iff_false.1 h5) (dec_iff_false.1 h6) (dec_iff_false.1 h7) (dec_iff_false.1 h8) (dec_iff_false.1 h9) (dec_iff_false.1 h10)]
  exact l9Read_none wd hw a A c w hA h0 h1 h2 h3 h4 h5 h6 h7 h8 h9 h10
end Go.Proofs.YtaeifbmdjjmgkaaDoor
