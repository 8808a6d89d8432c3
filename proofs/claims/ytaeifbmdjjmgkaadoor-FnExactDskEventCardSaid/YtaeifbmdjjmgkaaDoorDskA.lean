/- What the reference's DskText writes at hear, lose, twice, give. Conditions: none. -/
import Derived.Test.YtaeifbmdjjmgkaaDoorDskV
import Derived.Test.YtaeifbmdjjmgkaaDoorWLast
import Derived.Test.YtaeifbmdjjmgkaaDoorWTab
import Derived.Test.YtaeifbmdjjmgkaaDoorWInv
import Derived.Test.YtaeifbmdjjmgkaaDoorWInvWords
namespace Go.Proofs.YtaeifbmdjjmgkaaDoor
open Go.RowKit Go.Proofs.YtaeifbmdjjmgkaaDoorW.PrintWords Go.Proofs.YtaeifbmdjjmgkaaDoorW.PrintLast
set_option linter.unusedVariables false
set_option linter.unusedSimpArgs false
set_option maxRecDepth 100000

theorem l3PlainI_any (n : Int) (h0 : 0 ≤ n) (hn : n ≤ 999) (w : World) :
    Calls Tryd.prog 13 #[.int .i64 n] w fun e w' => e = .returned (.string (itoaB n)) ∧ Below w.heap.size w w' := by
  obtain ⟨m, rfl⟩ := Int.eq_ofNat_of_zero_le h0
  exact l3Plain_any m (by omega) w
def hears : Array Value := #[.string ⟨#[104, 101, 97, 114, 32]⟩, .string ⟨#[108, 111, 115, 101, 32]⟩, .string ⟨#[116, 119, 105, 99, 101, 32]⟩, .string ⟨#[]⟩, .string ⟨#[103, 105, 118, 101, 32]⟩]
section
variable {P : Program} {ops : Array Oper} {o : Oper} {a : Act} {Q : Exit → Act → World → Prop} {Kc : Act → World → Prop}
/-- A literal row in a region, its block told. -/
theorem lit_blk_step {W : World} {cs : Array Value} {e n : Nat} (hw : Region.wanted o (yielded ops a.tmps) = true) {N : Tmp} (_hd : o.dst = some N)
    (hrun : (execOp a.eval o).run P W = .ok (.value (.slice (some ⟨W.heap.size, 0, none⟩) n n)) (W.alloc (.cells cs e)))
    (h : ∀ g w1, w1.heap[g]? = some (.cells cs e (0, 0)) → Below W.heap.size W w1 → Kc (a.put o.dst (.slice (some ⟨g, 0, none⟩) n n)) w1) : if Region.wanted o (yielded ops a.tmps) = true then Oper.wp P o a W Kc Q else Kc (a.put o.dst undef) W :=
  event_step hw hrun (h _ _ (blk_new W _) (below_alloc (Below.refl _ _) _))
end
def dskAt.T17 : Bool × List (List Nat × List Nat) := (true, [([], []), ([], []), ([1], [1]), ([2], [2]), ([0, 3], [0, 3]), ([4], [4]), ([], []), ([6], [6]), ([7], [7]), ([5, 8], [5, 8]), ([9, 8, 0, 1, 2, 3, 4, 5, 6, 7, 8, 9], [9])])
def dskAt.B17 : List Nat := [0, 0, 2, 6, 15, 31, 0, 64, 192, 511, 1023]
theorem dskAt.tab17 : rtab .any (opsOf Tryd.f5 17) = dskAt.T17 := by kernel_rfl
theorem dskAt.bits17 : waitsOk dskAt.T17.2 dskAt.B17 = true := by kernel_rfl

set_option maxHeartbeats 8000000 in
theorem sDskText_hear (e : Ev) (hk : e.kind = 2) (h0 : InB e.kind 2 7) (h1 : InB e.at_ 0 999) (h2 : InB e.place 0 3) (h3 : InB e.keep 0 999) (w : World) :
    Calls Tryd.prog 5 #[e.val] w fun e' w' => e' = .returned (.string ((⟨#[104, 101, 97, 114, 32]⟩ : ByteArray) ++ itoaB e.at_)) ∧ Below w.heap.size w w' := by
  simp only [Ev.val]
  have f0 : inB e.kind 2 7 = true := dec_true h0
  have f1 : inB e.at_ 0 999 = true := dec_true h1
  have f2 : inB e.place 0 3 = true := dec_true h2
  have f3 : inB e.keep 0 999 = true := dec_true h3
  have b1 : (e.kind == 1) = false := by simp [hk]
  have b5 : (e.kind == 5) = false := by simp [hk]
  have b7 : (e.kind == 7) = false := by simp [hk]
  have hz := itoaB_size e.at_ (by have := h1.1; omega) (by have := h1.2; omega)
  have HC := Lib.hid (fun W => l3PlainI_any e.at_ h1.1 h1.2 W)
  have HK := Lib.hid hk
  clear h0 h1 h2 h3 hk
  go_enter Tryd.func5, Tryd.ntmps5
  go_wp2_with (first | ((with_reducible refine gate_dst (N := 1) rfl ?_); refine box_event ?hg (N := 1) ?hd (cs := #[.int .i64 e.kind, .int .i64 e.op.kind, .int .i64 e.op.who, .int .i64 e.op.in_, .int .i64 e.op.code, .int .i64 e.op.sec, .int .i64 e.op.fam, .int .i64 e.op.gen, .int .i64 e.at_, .int .i64 e.place, .int .i64 e.keep]) (t := 29) ?hr ?_; (case hd => rfl); (case hg => rfl); (case hr => first | (go_simp; done) | (go_simp; rfl)); intro B hg w3 hbox hb; have c0 := (blk_cell hbox 0).trans (rfl : _ = some (Value.int .i64 e.kind)); have c1 := (blk_cell hbox 1).trans (rfl : _ = some (Value.int .i64 e.op.kind)); have c2 := (blk_cell hbox 2).trans (rfl : _ = some (Value.int .i64 e.op.who)); have c3 := (blk_cell hbox 3).trans (rfl : _ = some (Value.int .i64 e.op.in_)); have c4 := (blk_cell hbox 4).trans (rfl : _ = some (Value.int .i64 e.op.code)); have c5 := (blk_cell hbox 5).trans (rfl : _ = some (Value.int .i64 e.op.sec)); have c6 := (blk_cell hbox 6).trans (rfl : _ = some (Value.int .i64 e.op.fam)); have c7 := (blk_cell hbox 7).trans (rfl : _ = some (Value.int .i64 e.op.gen)); have c8 := (blk_cell hbox 8).trans (rfl : _ = some (Value.int .i64 e.at_)); have c9 := (blk_cell hbox 9).trans (rfl : _ = some (Value.int .i64 e.place)); have c10 := (blk_cell hbox 10).trans (rfl : _ = some (Value.int .i64 e.keep)); have HX := Lib.hid hbox; have HB := Lib.hid hb; clear hbox hb hg) | (go_at_call 14; refine (l1In_any _ _ _ _).mono ?_; rintro e' w' ⟨rfl, rfl⟩))
  clear c0 c1 c2 c3 c4 c5 c6 c7 c8 c9 c10 b1 b5 b7 f0 f1 f2 f3
  have hk := HK.out
  clear HK
  refine start_ (n := 11) (S := fun w' => True) (ds := []) #[false, false, false, false, false, false, false, false, false, false, false] (by kernel_rfl) rfl rfl trivial (fun hHeld => ?_)
  refine with_tabW dskAt.tab17 dskAt.bits17 (fun HT_ HW_ => ?_)
  generalize hw1_ : w3.drew = w1_ at hHeld ⊢
  have n0_ := Aside0.mk (show w1_.heap[B]? = some (.cells #[.int .i64 e.kind, .int .i64 e.op.kind, .int .i64 e.op.who, .int .i64 e.op.in_, .int .i64 e.op.code, .int .i64 e.op.sec, .int .i64 e.op.fam, .int .i64 e.op.gen, .int .i64 e.at_, .int .i64 e.place, .int .i64 e.keep] 29 (0, 0)) from hw1_ ▸ HX.out)
  have n1_ := Aside0.mk (show Below w.heap.size w w1_ from hw1_ ▸ below_drew1 HB.out)
  clear HX HB hw1_
  have HX := n0_
  have HB := n1_
  clear n0_ n1_
  refine inv_at [0, 1, 2, 3, 4, 5, 6, 7, 8, 9, 10] (fun a0_ b a w' => ∃ (g75 : Nat) (m0_ : Value) (m4_ : Value), a = putSel a0_ b [(0, 75, m0_), (1, 76, .pointer (some ⟨B, 0, none⟩)), (2, 77, .int .i64 2), (3, 78, .int .i64 0), (4, 79, m4_), (5, 80, .string (⟨#[104, 101, 97, 114, 32]⟩ : ByteArray)), (6, 81, .pointer (some ⟨B, 8, none⟩)), (7, 82, .int .i64 e.at_), (8, 83, .string (itoaB e.at_)), (9, 84, .string ((⟨#[104, 101, 97, 114, 32]⟩ : ByteArray) ++ itoaB e.at_)), (10, 2, .string ((⟨#[104, 101, 97, 114, 32]⟩ : ByteArray) ++ itoaB e.at_))] ∧ (w'.heap[B]? = some (.cells #[.int .i64 e.kind, .int .i64 e.op.kind, .int .i64 e.op.who, .int .i64 e.op.in_, .int .i64 e.op.code, .int .i64 e.op.sec, .int .i64 e.op.fam, .int .i64 e.op.gen, .int .i64 e.at_, .int .i64 e.place, .int .i64 e.keep] 29 (0, 0))) ∧ (Below w.heap.size w w') ∧ (b 0 = true → w'.heap[g75]? = some (.cells hears 9 (0, 0))) ∧ (b 0 = true → (m0_ : Value) = .slice (some ⟨g75, 0, none⟩) 5 5) ∧ (b 4 = true → (m4_ : Value) = .pointer (some ⟨g75, 0, none⟩))) HT_.out HW_.out (by kernel_rfl) (by kernel_rfl) ?_ ?_ ?_
  · exact ⟨0, .bool false, .bool false, by simp only [putSel, Bool.false_eq_true, if_false], HX.out, HB.out, fun h_ => absurd h_ (by decide), fun h_ => absurd h_ (by decide), fun h_ => absurd h_ (by decide)⟩
  · skip
    clear HB HX
    refine steps_cons ?_ ?_
    · rintro b a w' ⟨g75, m0_, m4_, ha, Q_HX, Q_HB, Q_HG, Q_X0_, Q_X4_⟩ hb_ hon hoff
      refine ⟨_, rfl, fun K hK => ?_⟩
      replace ha := Aside0.mk ha
      have HX := Aside0.mk Q_HX
      have HB := Aside0.mk Q_HB
      refine lit_blk_step (cs := hears) (e := 9) (n := 5) ?hg (N := 75) ?hd ?hr ?_; (case hd => rfl); (case hg => rfl); (case hr => first | (go_simp; done) | (go_simp; rfl))
      intro g9_ w9_ hg_ hb_2
      refine hK.out _ _ ⟨g9_, (.slice (some ⟨g9_, 0, none⟩) 5 5), m4_, (by rw [ha.out]; exact putSel_upk 0 hb_ rfl rfl rfl), blk_below HX.out hb_2, below_step HB.out hb_2, fun _ => hg_, fun _ => rfl, fun h0_ => absurd ((hoff 4 (by kernel_rfl)).symm.trans h0_) (by decide)⟩
    refine steps_cons ?_ ?_
    · rintro b a w' ⟨g75, m0_, m4_, ha, Q_HX, Q_HB, Q_HG, Q_X0_, Q_X4_⟩ hb_ hon hoff
      refine ⟨_, rfl, fun K hK => ?_⟩
      have e1 : a.tmps[1]? = some (.pointer (some ⟨B, 0, none⟩)) := by rw [ha]; exact (putSel_off rfl).trans rfl
      replace ha := Aside0.mk ha
      have HX := Aside0.mk Q_HX
      have HB := Aside0.mk Q_HB
      refine value_ (w1 := w') (v := .pointer (some ⟨B, 0, none⟩)) (by rfl) rfl ?_ ?_
      · go_simp
        (try simp only [i64_w])
        try rfl
      refine hK.out _ _ ⟨g75, m0_, m4_, (by rw [ha.out]; exact putSel_upk 1 hb_ rfl rfl rfl), Q_HX, Q_HB, Q_HG, Q_X0_, fun h0_ => absurd ((hoff 4 (by kernel_rfl)).symm.trans h0_) (by decide)⟩
    refine steps_cons ?_ ?_
    · rintro b a w' ⟨g75, m0_, m4_, ha, Q_HX, Q_HB, Q_HG, Q_X0_, Q_X4_⟩ hb_ hon hoff
      refine ⟨_, rfl, fun K hK => ?_⟩
      have e76 : a.tmps[76]? = some (.pointer (some ⟨B, 0, none⟩)) := by rw [ha]; exact putSel_on (e := (1, 76, .pointer (some ⟨B, 0, none⟩))) 1 rfl rfl (hon 1 (by kernel_rfl)) rfl
      replace ha := Aside0.mk ha
      have HX := Aside0.mk Q_HX
      have HB := Aside0.mk Q_HB
      have hc_ := (blk_cell HX.out 0).trans (rfl : _ = some (Value.int .i64 e.kind))
      rw [hk] at hc_
      refine value_ (w1 := w') (v := .int .i64 2) (by rfl) rfl ?_ ?_
      · go_simp
        (try simp only [i64_w])
        try rfl
      refine hK.out _ _ ⟨g75, m0_, m4_, (by rw [ha.out]; exact putSel_upk 2 hb_ rfl rfl rfl), Q_HX, Q_HB, Q_HG, Q_X0_, fun h0_ => absurd ((hoff 4 (by kernel_rfl)).symm.trans h0_) (by decide)⟩
    refine steps_cons ?_ ?_
    · rintro b a w' ⟨g75, m0_, m4_, ha, Q_HX, Q_HB, Q_HG, Q_X0_, Q_X4_⟩ hb_ hon hoff
      refine ⟨_, rfl, fun K hK => ?_⟩
      have e77 : a.tmps[77]? = some (.int .i64 2) := by rw [ha]; exact putSel_on (e := (2, 77, .int .i64 2)) 2 rfl rfl (hon 2 (by kernel_rfl)) rfl
      replace ha := Aside0.mk ha
      have HX := Aside0.mk Q_HX
      have HB := Aside0.mk Q_HB
      have hw_ : wrap64 0 = 0 := IntWalk.wrap64_in _ ⟨by decide, by decide⟩
      refine value_ (w1 := w') (v := .int .i64 0) (by rfl) rfl ?_ ?_
      · go_simp
        first | done | rfl | exact hw_
      refine hK.out _ _ ⟨g75, m0_, m4_, (by rw [ha.out]; exact putSel_upk 3 hb_ rfl rfl rfl), Q_HX, Q_HB, Q_HG, Q_X0_, fun h0_ => absurd ((hoff 4 (by kernel_rfl)).symm.trans h0_) (by decide)⟩
    refine steps_cons ?_ ?_
    · rintro b a w' ⟨g75, m0_, m4_, ha, Q_HX, Q_HB, Q_HG, Q_X0_, Q_X4_⟩ hb_ hon hoff
      refine ⟨_, rfl, fun K hK => ?_⟩
      have e75 : a.tmps[75]? = some (m0_) := by rw [ha]; exact putSel_on (e := (0, 75, m0_)) 0 rfl rfl (hon 0 (by kernel_rfl)) rfl
      rw [Q_X0_ (hon 0 (by kernel_rfl))] at e75
      have e78 : a.tmps[78]? = some (.int .i64 0) := by rw [ha]; exact putSel_on (e := (3, 78, .int .i64 0)) 3 rfl rfl (hon 3 (by kernel_rfl)) rfl
      replace ha := Aside0.mk ha
      have HX := Aside0.mk Q_HX
      have HB := Aside0.mk Q_HB
      have HG := Aside0.mk (Q_HG (hon 0 (by kernel_rfl)))
      refine value_ (w1 := w') (v := .pointer (some ⟨g75, 0, none⟩)) (by rfl) rfl ?_ ?_
      · go_simp
        (try simp only [i64_w])
        try rfl
      refine hK.out _ _ ⟨g75, m0_, (.pointer (some ⟨g75, 0, none⟩)), (by rw [ha.out]; exact putSel_upk 4 hb_ rfl rfl rfl), Q_HX, Q_HB, Q_HG, Q_X0_, fun _ => rfl⟩
    refine steps_cons ?_ ?_
    · rintro b a w' ⟨g75, m0_, m4_, ha, Q_HX, Q_HB, Q_HG, Q_X0_, Q_X4_⟩ hb_ hon hoff
      refine ⟨_, rfl, fun K hK => ?_⟩
      have e79 : a.tmps[79]? = some (m4_) := by rw [ha]; exact putSel_on (e := (4, 79, m4_)) 4 rfl rfl (hon 4 (by kernel_rfl)) rfl
      rw [Q_X4_ (hon 4 (by kernel_rfl))] at e79
      replace ha := Aside0.mk ha
      have HX := Aside0.mk Q_HX
      have HB := Aside0.mk Q_HB
      have HG := Aside0.mk (Q_HG (hon 0 (by kernel_rfl)))
      have hc_ := (blk_cell HG.out 0).trans (rfl : _ = some (Value.string (⟨#[104, 101, 97, 114, 32]⟩ : ByteArray)))
      refine value_ (w1 := w') (v := .string (⟨#[104, 101, 97, 114, 32]⟩ : ByteArray)) (by rfl) rfl ?_ ?_
      · go_simp
        (try simp only [i64_w])
        try rfl
      refine hK.out _ _ ⟨g75, m0_, m4_, (by rw [ha.out]; exact putSel_upk 5 hb_ rfl rfl rfl), Q_HX, Q_HB, Q_HG, Q_X0_, Q_X4_⟩
    refine steps_cons ?_ ?_
    · rintro b a w' ⟨g75, m0_, m4_, ha, Q_HX, Q_HB, Q_HG, Q_X0_, Q_X4_⟩ hb_ hon hoff
      refine ⟨_, rfl, fun K hK => ?_⟩
      have e1 : a.tmps[1]? = some (.pointer (some ⟨B, 0, none⟩)) := by rw [ha]; exact (putSel_off rfl).trans rfl
      replace ha := Aside0.mk ha
      have HX := Aside0.mk Q_HX
      have HB := Aside0.mk Q_HB
      refine value_ (w1 := w') (v := .pointer (some ⟨B, 8, none⟩)) (by rfl) rfl ?_ ?_
      · go_simp
        (try simp only [i64_w])
        try rfl
      refine hK.out _ _ ⟨g75, m0_, m4_, (by rw [ha.out]; exact putSel_upk 6 hb_ rfl rfl rfl), Q_HX, Q_HB, Q_HG, Q_X0_, Q_X4_⟩
    refine steps_cons ?_ ?_
    · rintro b a w' ⟨g75, m0_, m4_, ha, Q_HX, Q_HB, Q_HG, Q_X0_, Q_X4_⟩ hb_ hon hoff
      refine ⟨_, rfl, fun K hK => ?_⟩
      have e81 : a.tmps[81]? = some (.pointer (some ⟨B, 8, none⟩)) := by rw [ha]; exact putSel_on (e := (6, 81, .pointer (some ⟨B, 8, none⟩))) 6 rfl rfl (hon 6 (by kernel_rfl)) rfl
      replace ha := Aside0.mk ha
      have HX := Aside0.mk Q_HX
      have HB := Aside0.mk Q_HB
      have hc_ := (blk_cell HX.out 8).trans (rfl : _ = some (Value.int .i64 e.at_))
      refine value_ (w1 := w') (v := .int .i64 e.at_) (by rfl) rfl ?_ ?_
      · go_simp
        (try simp only [i64_w])
        try rfl
      refine hK.out _ _ ⟨g75, m0_, m4_, (by rw [ha.out]; exact putSel_upk 7 hb_ rfl rfl rfl), Q_HX, Q_HB, Q_HG, Q_X0_, Q_X4_⟩
    refine steps_cons ?_ ?_
    · rintro b a w' ⟨g75, m0_, m4_, ha, Q_HX, Q_HB, Q_HG, Q_X0_, Q_X4_⟩ hb_ hon hoff
      refine ⟨_, rfl, fun K hK => ?_⟩
      have e82 : a.tmps[82]? = some (.int .i64 e.at_) := by rw [ha]; exact putSel_on (e := (7, 82, .int .i64 e.at_)) 7 rfl rfl (hon 7 (by kernel_rfl)) rfl
      replace ha := Aside0.mk ha
      have HX := Aside0.mk Q_HX
      have HB := Aside0.mk Q_HB
      refine goes_ Tryd.func13 (by kernel_rfl) rfl #[.int .i64 e.at_] (by rfl) rfl rfl (by first | (simp only [List.map_toArray, List.map_cons, List.map_nil, Act.eval, Array.getD_eq_getD_getElem?, Option.getD_some, e82]; done) | (simp only [List.map_toArray, List.map_cons, List.map_nil, Act.eval, Array.getD_eq_getD_getElem?, Option.getD_some, e82]; rfl)) ?_
      with_reducible refine (HC.out w').mono ?_
      rintro e9_ w9_ ⟨rfl, hb_2⟩
      refine ⟨_, rfl, ?_⟩
      refine hK.out _ _ ⟨g75, m0_, m4_, (by rw [ha.out]; exact putSel_upk 8 hb_ rfl rfl rfl), blk_below HX.out hb_2, below_step HB.out hb_2, fun h0_ => blk_below (Q_HG h0_) hb_2, Q_X0_, Q_X4_⟩
    refine steps_cons ?_ ?_
    · rintro b a w' ⟨g75, m0_, m4_, ha, Q_HX, Q_HB, Q_HG, Q_X0_, Q_X4_⟩ hb_ hon hoff
      refine ⟨_, rfl, fun K hK => ?_⟩
      have e80 : a.tmps[80]? = some (.string (⟨#[104, 101, 97, 114, 32]⟩ : ByteArray)) := by rw [ha]; exact putSel_on (e := (5, 80, .string (⟨#[104, 101, 97, 114, 32]⟩ : ByteArray))) 5 rfl rfl (hon 5 (by kernel_rfl)) rfl
      have e83 : a.tmps[83]? = some (.string (itoaB e.at_)) := by rw [ha]; exact putSel_on (e := (8, 83, .string (itoaB e.at_))) 8 rfl rfl (hon 8 (by kernel_rfl)) rfl
      replace ha := Aside0.mk ha
      have HX := Aside0.mk Q_HX
      have HB := Aside0.mk Q_HB
      have HG := Aside0.mk (Q_HG (hon 0 (by kernel_rfl)))
      have hz2_ : 5 + (itoaB e.at_).size ≤ 9223372036854775807 := by omega
      refine value_ (w1 := w') (v := .string ((⟨#[104, 101, 97, 114, 32]⟩ : ByteArray) ++ itoaB e.at_)) (by rfl) rfl ?_ ?_
      · go_simp
        (try simp only [i64_w])
        try rfl
      refine hK.out _ _ ⟨g75, m0_, m4_, (by rw [ha.out]; exact putSel_upk 9 hb_ rfl rfl rfl), Q_HX, Q_HB, Q_HG, Q_X0_, Q_X4_⟩
    refine steps_cons ?_ ?_
    · rintro b a w' ⟨g75, m0_, m4_, ha, Q_HX, Q_HB, Q_HG, Q_X0_, Q_X4_⟩ hb_ hon hoff
      refine ⟨_, rfl, fun K hK => ?_⟩
      have e84 : a.tmps[84]? = some (.string ((⟨#[104, 101, 97, 114, 32]⟩ : ByteArray) ++ itoaB e.at_)) := by rw [ha]; exact putSel_on (e := (9, 84, .string ((⟨#[104, 101, 97, 114, 32]⟩ : ByteArray) ++ itoaB e.at_))) 9 rfl rfl (hon 9 (by kernel_rfl)) rfl
      replace ha := Aside0.mk ha
      have HX := Aside0.mk Q_HX
      have HB := Aside0.mk Q_HB
      have HG := Aside0.mk (Q_HG (hon 0 (by kernel_rfl)))
      refine value_ (w1 := w') (v := .string ((⟨#[104, 101, 97, 114, 32]⟩ : ByteArray) ++ itoaB e.at_)) (by rfl) rfl ?_ ?_
      · go_simp
        (try simp only [i64_w])
        try rfl
      refine hK.out _ _ ⟨g75, m0_, m4_, (by rw [ha.out]; exact putSel_upk 10 hb_ rfl rfl rfl), Q_HX, Q_HB, Q_HG, Q_X0_, Q_X4_⟩
    exact steps_nil
  · rintro b a w' hall ⟨g75, m0_, m4_, ha, Q_HX, Q_HB, Q_HG, Q_X0_, Q_X4_⟩
    clear HB HX
    have hb0_ := hall 0 (by kernel_rfl)
    have hb1_ := hall 1 (by kernel_rfl)
    have hb2_ := hall 2 (by kernel_rfl)
    have hb3_ := hall 3 (by kernel_rfl)
    have hb4_ := hall 4 (by kernel_rfl)
    have hb5_ := hall 5 (by kernel_rfl)
    have hb6_ := hall 6 (by kernel_rfl)
    have hb7_ := hall 7 (by kernel_rfl)
    have hb8_ := hall 8 (by kernel_rfl)
    have hb9_ := hall 9 (by kernel_rfl)
    have hb10_ := hall 10 (by kernel_rfl)
    subst ha
    obtain rfl := Q_X0_ hb0_
    obtain rfl := Q_X4_ hb4_
    simp only [putSel, hb0_, hb1_, hb2_, hb3_, hb4_, hb5_, hb6_, hb7_, hb8_, hb9_, hb10_, if_true, Act.put, List.setIfInBounds_toArray, List.set_cons_zero, List.set_cons_succ]
    have HX := Aside0.mk Q_HX
    clear Q_HX
    have HB := Aside0.mk Q_HB
    clear Q_HB
    have HG := Aside0.mk (Q_HG hb0_)
    clear Q_HG
    clear hall hb0_ hb1_ hb2_ hb3_ hb4_ hb5_ hb6_ hb7_ hb8_ hb9_ hb10_
    have HBB := HB.out
    go_wp2
    go_ret
    exact ⟨rfl, HBB⟩

set_option maxHeartbeats 8000000 in
theorem sDskText_lose (e : Ev) (hk : e.kind = 3) (h0 : InB e.kind 2 7) (h1 : InB e.at_ 0 999) (h2 : InB e.place 0 3) (h3 : InB e.keep 0 999) (w : World) :
    Calls Tryd.prog 5 #[e.val] w fun e' w' => e' = .returned (.string ((⟨#[108, 111, 115, 101, 32]⟩ : ByteArray) ++ itoaB e.at_)) ∧ Below w.heap.size w w' := by
  simp only [Ev.val]
  have f0 : inB e.kind 2 7 = true := dec_true h0
  have f1 : inB e.at_ 0 999 = true := dec_true h1
  have f2 : inB e.place 0 3 = true := dec_true h2
  have f3 : inB e.keep 0 999 = true := dec_true h3
  have b1 : (e.kind == 1) = false := by simp [hk]
  have b5 : (e.kind == 5) = false := by simp [hk]
  have b7 : (e.kind == 7) = false := by simp [hk]
  have hz := itoaB_size e.at_ (by have := h1.1; omega) (by have := h1.2; omega)
  have HC := Lib.hid (fun W => l3PlainI_any e.at_ h1.1 h1.2 W)
  have HK := Lib.hid hk
  clear h0 h1 h2 h3 hk
  go_enter Tryd.func5, Tryd.ntmps5
  go_wp2_with (first | ((with_reducible refine gate_dst (N := 1) rfl ?_); refine box_event ?hg (N := 1) ?hd (cs := #[.int .i64 e.kind, .int .i64 e.op.kind, .int .i64 e.op.who, .int .i64 e.op.in_, .int .i64 e.op.code, .int .i64 e.op.sec, .int .i64 e.op.fam, .int .i64 e.op.gen, .int .i64 e.at_, .int .i64 e.place, .int .i64 e.keep]) (t := 29) ?hr ?_; (case hd => rfl); (case hg => rfl); (case hr => first | (go_simp; done) | (go_simp; rfl)); intro B hg w3 hbox hb; have c0 := (blk_cell hbox 0).trans (rfl : _ = some (Value.int .i64 e.kind)); have c1 := (blk_cell hbox 1).trans (rfl : _ = some (Value.int .i64 e.op.kind)); have c2 := (blk_cell hbox 2).trans (rfl : _ = some (Value.int .i64 e.op.who)); have c3 := (blk_cell hbox 3).trans (rfl : _ = some (Value.int .i64 e.op.in_)); have c4 := (blk_cell hbox 4).trans (rfl : _ = some (Value.int .i64 e.op.code)); have c5 := (blk_cell hbox 5).trans (rfl : _ = some (Value.int .i64 e.op.sec)); have c6 := (blk_cell hbox 6).trans (rfl : _ = some (Value.int .i64 e.op.fam)); have c7 := (blk_cell hbox 7).trans (rfl : _ = some (Value.int .i64 e.op.gen)); have c8 := (blk_cell hbox 8).trans (rfl : _ = some (Value.int .i64 e.at_)); have c9 := (blk_cell hbox 9).trans (rfl : _ = some (Value.int .i64 e.place)); have c10 := (blk_cell hbox 10).trans (rfl : _ = some (Value.int .i64 e.keep)); have HX := Lib.hid hbox; have HB := Lib.hid hb; clear hbox hb hg) | (go_at_call 14; refine (l1In_any _ _ _ _).mono ?_; rintro e' w' ⟨rfl, rfl⟩))
  clear c0 c1 c2 c3 c4 c5 c6 c7 c8 c9 c10 b1 b5 b7 f0 f1 f2 f3
  have hk := HK.out
  clear HK
  refine start_ (n := 11) (S := fun w' => True) (ds := []) #[false, false, false, false, false, false, false, false, false, false, false] (by kernel_rfl) rfl rfl trivial (fun hHeld => ?_)
  refine with_tabW dskAt.tab17 dskAt.bits17 (fun HT_ HW_ => ?_)
  generalize hw1_ : w3.drew = w1_ at hHeld ⊢
  have n0_ := Aside0.mk (show w1_.heap[B]? = some (.cells #[.int .i64 e.kind, .int .i64 e.op.kind, .int .i64 e.op.who, .int .i64 e.op.in_, .int .i64 e.op.code, .int .i64 e.op.sec, .int .i64 e.op.fam, .int .i64 e.op.gen, .int .i64 e.at_, .int .i64 e.place, .int .i64 e.keep] 29 (0, 0)) from hw1_ ▸ HX.out)
  have n1_ := Aside0.mk (show Below w.heap.size w w1_ from hw1_ ▸ below_drew1 HB.out)
  clear HX HB hw1_
  have HX := n0_
  have HB := n1_
  clear n0_ n1_
  refine inv_at [0, 1, 2, 3, 4, 5, 6, 7, 8, 9, 10] (fun a0_ b a w' => ∃ (g75 : Nat) (m0_ : Value) (m4_ : Value), a = putSel a0_ b [(0, 75, m0_), (1, 76, .pointer (some ⟨B, 0, none⟩)), (2, 77, .int .i64 3), (3, 78, .int .i64 1), (4, 79, m4_), (5, 80, .string (⟨#[108, 111, 115, 101, 32]⟩ : ByteArray)), (6, 81, .pointer (some ⟨B, 8, none⟩)), (7, 82, .int .i64 e.at_), (8, 83, .string (itoaB e.at_)), (9, 84, .string ((⟨#[108, 111, 115, 101, 32]⟩ : ByteArray) ++ itoaB e.at_)), (10, 2, .string ((⟨#[108, 111, 115, 101, 32]⟩ : ByteArray) ++ itoaB e.at_))] ∧ (w'.heap[B]? = some (.cells #[.int .i64 e.kind, .int .i64 e.op.kind, .int .i64 e.op.who, .int .i64 e.op.in_, .int .i64 e.op.code, .int .i64 e.op.sec, .int .i64 e.op.fam, .int .i64 e.op.gen, .int .i64 e.at_, .int .i64 e.place, .int .i64 e.keep] 29 (0, 0))) ∧ (Below w.heap.size w w') ∧ (b 0 = true → w'.heap[g75]? = some (.cells hears 9 (0, 0))) ∧ (b 0 = true → (m0_ : Value) = .slice (some ⟨g75, 0, none⟩) 5 5) ∧ (b 4 = true → (m4_ : Value) = .pointer (some ⟨g75, 1, none⟩))) HT_.out HW_.out (by kernel_rfl) (by kernel_rfl) ?_ ?_ ?_
  · exact ⟨0, .bool false, .bool false, by simp only [putSel, Bool.false_eq_true, if_false], HX.out, HB.out, fun h_ => absurd h_ (by decide), fun h_ => absurd h_ (by decide), fun h_ => absurd h_ (by decide)⟩
  · skip
    clear HB HX
    refine steps_cons ?_ ?_
    · rintro b a w' ⟨g75, m0_, m4_, ha, Q_HX, Q_HB, Q_HG, Q_X0_, Q_X4_⟩ hb_ hon hoff
      refine ⟨_, rfl, fun K hK => ?_⟩
      replace ha := Aside0.mk ha
      have HX := Aside0.mk Q_HX
      have HB := Aside0.mk Q_HB
      refine lit_blk_step (cs := hears) (e := 9) (n := 5) ?hg (N := 75) ?hd ?hr ?_; (case hd => rfl); (case hg => rfl); (case hr => first | (go_simp; done) | (go_simp; rfl))
      intro g9_ w9_ hg_ hb_2
      refine hK.out _ _ ⟨g9_, (.slice (some ⟨g9_, 0, none⟩) 5 5), m4_, (by rw [ha.out]; exact putSel_upk 0 hb_ rfl rfl rfl), blk_below HX.out hb_2, below_step HB.out hb_2, fun _ => hg_, fun _ => rfl, fun h0_ => absurd ((hoff 4 (by kernel_rfl)).symm.trans h0_) (by decide)⟩
    refine steps_cons ?_ ?_
    · rintro b a w' ⟨g75, m0_, m4_, ha, Q_HX, Q_HB, Q_HG, Q_X0_, Q_X4_⟩ hb_ hon hoff
      refine ⟨_, rfl, fun K hK => ?_⟩
      have e1 : a.tmps[1]? = some (.pointer (some ⟨B, 0, none⟩)) := by rw [ha]; exact (putSel_off rfl).trans rfl
      replace ha := Aside0.mk ha
      have HX := Aside0.mk Q_HX
      have HB := Aside0.mk Q_HB
      refine value_ (w1 := w') (v := .pointer (some ⟨B, 0, none⟩)) (by rfl) rfl ?_ ?_
      · go_simp
        (try simp only [i64_w])
        try rfl
      refine hK.out _ _ ⟨g75, m0_, m4_, (by rw [ha.out]; exact putSel_upk 1 hb_ rfl rfl rfl), Q_HX, Q_HB, Q_HG, Q_X0_, fun h0_ => absurd ((hoff 4 (by kernel_rfl)).symm.trans h0_) (by decide)⟩
    refine steps_cons ?_ ?_
    · rintro b a w' ⟨g75, m0_, m4_, ha, Q_HX, Q_HB, Q_HG, Q_X0_, Q_X4_⟩ hb_ hon hoff
      refine ⟨_, rfl, fun K hK => ?_⟩
      have e76 : a.tmps[76]? = some (.pointer (some ⟨B, 0, none⟩)) := by rw [ha]; exact putSel_on (e := (1, 76, .pointer (some ⟨B, 0, none⟩))) 1 rfl rfl (hon 1 (by kernel_rfl)) rfl
      replace ha := Aside0.mk ha
      have HX := Aside0.mk Q_HX
      have HB := Aside0.mk Q_HB
      have hc_ := (blk_cell HX.out 0).trans (rfl : _ = some (Value.int .i64 e.kind))
      rw [hk] at hc_
      refine value_ (w1 := w') (v := .int .i64 3) (by rfl) rfl ?_ ?_
      · go_simp
        (try simp only [i64_w])
        try rfl
      refine hK.out _ _ ⟨g75, m0_, m4_, (by rw [ha.out]; exact putSel_upk 2 hb_ rfl rfl rfl), Q_HX, Q_HB, Q_HG, Q_X0_, fun h0_ => absurd ((hoff 4 (by kernel_rfl)).symm.trans h0_) (by decide)⟩
    refine steps_cons ?_ ?_
    · rintro b a w' ⟨g75, m0_, m4_, ha, Q_HX, Q_HB, Q_HG, Q_X0_, Q_X4_⟩ hb_ hon hoff
      refine ⟨_, rfl, fun K hK => ?_⟩
      have e77 : a.tmps[77]? = some (.int .i64 3) := by rw [ha]; exact putSel_on (e := (2, 77, .int .i64 3)) 2 rfl rfl (hon 2 (by kernel_rfl)) rfl
      replace ha := Aside0.mk ha
      have HX := Aside0.mk Q_HX
      have HB := Aside0.mk Q_HB
      have hw_ : wrap64 1 = 1 := IntWalk.wrap64_in _ ⟨by decide, by decide⟩
      refine value_ (w1 := w') (v := .int .i64 1) (by rfl) rfl ?_ ?_
      · go_simp
        first | done | rfl | exact hw_
      refine hK.out _ _ ⟨g75, m0_, m4_, (by rw [ha.out]; exact putSel_upk 3 hb_ rfl rfl rfl), Q_HX, Q_HB, Q_HG, Q_X0_, fun h0_ => absurd ((hoff 4 (by kernel_rfl)).symm.trans h0_) (by decide)⟩
    refine steps_cons ?_ ?_
    · rintro b a w' ⟨g75, m0_, m4_, ha, Q_HX, Q_HB, Q_HG, Q_X0_, Q_X4_⟩ hb_ hon hoff
      refine ⟨_, rfl, fun K hK => ?_⟩
      have e75 : a.tmps[75]? = some (m0_) := by rw [ha]; exact putSel_on (e := (0, 75, m0_)) 0 rfl rfl (hon 0 (by kernel_rfl)) rfl
      rw [Q_X0_ (hon 0 (by kernel_rfl))] at e75
      have e78 : a.tmps[78]? = some (.int .i64 1) := by rw [ha]; exact putSel_on (e := (3, 78, .int .i64 1)) 3 rfl rfl (hon 3 (by kernel_rfl)) rfl
      replace ha := Aside0.mk ha
      have HX := Aside0.mk Q_HX
      have HB := Aside0.mk Q_HB
      have HG := Aside0.mk (Q_HG (hon 0 (by kernel_rfl)))
      refine value_ (w1 := w') (v := .pointer (some ⟨g75, 1, none⟩)) (by rfl) rfl ?_ ?_
      · go_simp
        (try simp only [i64_w])
        try rfl
      refine hK.out _ _ ⟨g75, m0_, (.pointer (some ⟨g75, 1, none⟩)), (by rw [ha.out]; exact putSel_upk 4 hb_ rfl rfl rfl), Q_HX, Q_HB, Q_HG, Q_X0_, fun _ => rfl⟩
    refine steps_cons ?_ ?_
    · rintro b a w' ⟨g75, m0_, m4_, ha, Q_HX, Q_HB, Q_HG, Q_X0_, Q_X4_⟩ hb_ hon hoff
      refine ⟨_, rfl, fun K hK => ?_⟩
      have e79 : a.tmps[79]? = some (m4_) := by rw [ha]; exact putSel_on (e := (4, 79, m4_)) 4 rfl rfl (hon 4 (by kernel_rfl)) rfl
      rw [Q_X4_ (hon 4 (by kernel_rfl))] at e79
      replace ha := Aside0.mk ha
      have HX := Aside0.mk Q_HX
      have HB := Aside0.mk Q_HB
      have HG := Aside0.mk (Q_HG (hon 0 (by kernel_rfl)))
      have hc_ := (blk_cell HG.out 1).trans (rfl : _ = some (Value.string (⟨#[108, 111, 115, 101, 32]⟩ : ByteArray)))
      refine value_ (w1 := w') (v := .string (⟨#[108, 111, 115, 101, 32]⟩ : ByteArray)) (by rfl) rfl ?_ ?_
      · go_simp
        (try simp only [i64_w])
        try rfl
      refine hK.out _ _ ⟨g75, m0_, m4_, (by rw [ha.out]; exact putSel_upk 5 hb_ rfl rfl rfl), Q_HX, Q_HB, Q_HG, Q_X0_, Q_X4_⟩
    refine steps_cons ?_ ?_
    · rintro b a w' ⟨g75, m0_, m4_, ha, Q_HX, Q_HB, Q_HG, Q_X0_, Q_X4_⟩ hb_ hon hoff
      refine ⟨_, rfl, fun K hK => ?_⟩
      have e1 : a.tmps[1]? = some (.pointer (some ⟨B, 0, none⟩)) := by rw [ha]; exact (putSel_off rfl).trans rfl
      replace ha := Aside0.mk ha
      have HX := Aside0.mk Q_HX
      have HB := Aside0.mk Q_HB
      refine value_ (w1 := w') (v := .pointer (some ⟨B, 8, none⟩)) (by rfl) rfl ?_ ?_
      · go_simp
        (try simp only [i64_w])
        try rfl
      refine hK.out _ _ ⟨g75, m0_, m4_, (by rw [ha.out]; exact putSel_upk 6 hb_ rfl rfl rfl), Q_HX, Q_HB, Q_HG, Q_X0_, Q_X4_⟩
    refine steps_cons ?_ ?_
    · rintro b a w' ⟨g75, m0_, m4_, ha, Q_HX, Q_HB, Q_HG, Q_X0_, Q_X4_⟩ hb_ hon hoff
      refine ⟨_, rfl, fun K hK => ?_⟩
      have e81 : a.tmps[81]? = some (.pointer (some ⟨B, 8, none⟩)) := by rw [ha]; exact putSel_on (e := (6, 81, .pointer (some ⟨B, 8, none⟩))) 6 rfl rfl (hon 6 (by kernel_rfl)) rfl
      replace ha := Aside0.mk ha
      have HX := Aside0.mk Q_HX
      have HB := Aside0.mk Q_HB
      have hc_ := (blk_cell HX.out 8).trans (rfl : _ = some (Value.int .i64 e.at_))
      refine value_ (w1 := w') (v := .int .i64 e.at_) (by rfl) rfl ?_ ?_
      · go_simp
        (try simp only [i64_w])
        try rfl
      refine hK.out _ _ ⟨g75, m0_, m4_, (by rw [ha.out]; exact putSel_upk 7 hb_ rfl rfl rfl), Q_HX, Q_HB, Q_HG, Q_X0_, Q_X4_⟩
    refine steps_cons ?_ ?_
    · rintro b a w' ⟨g75, m0_, m4_, ha, Q_HX, Q_HB, Q_HG, Q_X0_, Q_X4_⟩ hb_ hon hoff
      refine ⟨_, rfl, fun K hK => ?_⟩
      have e82 : a.tmps[82]? = some (.int .i64 e.at_) := by rw [ha]; exact putSel_on (e := (7, 82, .int .i64 e.at_)) 7 rfl rfl (hon 7 (by kernel_rfl)) rfl
      replace ha := Aside0.mk ha
      have HX := Aside0.mk Q_HX
      have HB := Aside0.mk Q_HB
      refine goes_ Tryd.func13 (by kernel_rfl) rfl #[.int .i64 e.at_] (by rfl) rfl rfl (by first | (simp only [List.map_toArray, List.map_cons, List.map_nil, Act.eval, Array.getD_eq_getD_getElem?, Option.getD_some, e82]; done) | (simp only [List.map_toArray, List.map_cons, List.map_nil, Act.eval, Array.getD_eq_getD_getElem?, Option.getD_some, e82]; rfl)) ?_
      with_reducible refine (HC.out w').mono ?_
      rintro e9_ w9_ ⟨rfl, hb_2⟩
      refine ⟨_, rfl, ?_⟩
      refine hK.out _ _ ⟨g75, m0_, m4_, (by rw [ha.out]; exact putSel_upk 8 hb_ rfl rfl rfl), blk_below HX.out hb_2, below_step HB.out hb_2, fun h0_ => blk_below (Q_HG h0_) hb_2, Q_X0_, Q_X4_⟩
    refine steps_cons ?_ ?_
    · rintro b a w' ⟨g75, m0_, m4_, ha, Q_HX, Q_HB, Q_HG, Q_X0_, Q_X4_⟩ hb_ hon hoff
      refine ⟨_, rfl, fun K hK => ?_⟩
      have e80 : a.tmps[80]? = some (.string (⟨#[108, 111, 115, 101, 32]⟩ : ByteArray)) := by rw [ha]; exact putSel_on (e := (5, 80, .string (⟨#[108, 111, 115, 101, 32]⟩ : ByteArray))) 5 rfl rfl (hon 5 (by kernel_rfl)) rfl
      have e83 : a.tmps[83]? = some (.string (itoaB e.at_)) := by rw [ha]; exact putSel_on (e := (8, 83, .string (itoaB e.at_))) 8 rfl rfl (hon 8 (by kernel_rfl)) rfl
      replace ha := Aside0.mk ha
      have HX := Aside0.mk Q_HX
      have HB := Aside0.mk Q_HB
      have HG := Aside0.mk (Q_HG (hon 0 (by kernel_rfl)))
      have hz2_ : 5 + (itoaB e.at_).size ≤ 9223372036854775807 := by omega
      refine value_ (w1 := w') (v := .string ((⟨#[108, 111, 115, 101, 32]⟩ : ByteArray) ++ itoaB e.at_)) (by rfl) rfl ?_ ?_
      · go_simp
        (try simp only [i64_w])
        try rfl
      refine hK.out _ _ ⟨g75, m0_, m4_, (by rw [ha.out]; exact putSel_upk 9 hb_ rfl rfl rfl), Q_HX, Q_HB, Q_HG, Q_X0_, Q_X4_⟩
    refine steps_cons ?_ ?_
    · rintro b a w' ⟨g75, m0_, m4_, ha, Q_HX, Q_HB, Q_HG, Q_X0_, Q_X4_⟩ hb_ hon hoff
      refine ⟨_, rfl, fun K hK => ?_⟩
      have e84 : a.tmps[84]? = some (.string ((⟨#[108, 111, 115, 101, 32]⟩ : ByteArray) ++ itoaB e.at_)) := by rw [ha]; exact putSel_on (e := (9, 84, .string ((⟨#[108, 111, 115, 101, 32]⟩ : ByteArray) ++ itoaB e.at_))) 9 rfl rfl (hon 9 (by kernel_rfl)) rfl
      replace ha := Aside0.mk ha
      have HX := Aside0.mk Q_HX
      have HB := Aside0.mk Q_HB
      have HG := Aside0.mk (Q_HG (hon 0 (by kernel_rfl)))
      refine value_ (w1 := w') (v := .string ((⟨#[108, 111, 115, 101, 32]⟩ : ByteArray) ++ itoaB e.at_)) (by rfl) rfl ?_ ?_
      · go_simp
        (try simp only [i64_w])
        try rfl
      refine hK.out _ _ ⟨g75, m0_, m4_, (by rw [ha.out]; exact putSel_upk 10 hb_ rfl rfl rfl), Q_HX, Q_HB, Q_HG, Q_X0_, Q_X4_⟩
    exact steps_nil
  · rintro b a w' hall ⟨g75, m0_, m4_, ha, Q_HX, Q_HB, Q_HG, Q_X0_, Q_X4_⟩
    clear HB HX
    have hb0_ := hall 0 (by kernel_rfl)
    have hb1_ := hall 1 (by kernel_rfl)
    have hb2_ := hall 2 (by kernel_rfl)
    have hb3_ := hall 3 (by kernel_rfl)
    have hb4_ := hall 4 (by kernel_rfl)
    have hb5_ := hall 5 (by kernel_rfl)
    have hb6_ := hall 6 (by kernel_rfl)
    have hb7_ := hall 7 (by kernel_rfl)
    have hb8_ := hall 8 (by kernel_rfl)
    have hb9_ := hall 9 (by kernel_rfl)
    have hb10_ := hall 10 (by kernel_rfl)
    subst ha
    obtain rfl := Q_X0_ hb0_
    obtain rfl := Q_X4_ hb4_
    simp only [putSel, hb0_, hb1_, hb2_, hb3_, hb4_, hb5_, hb6_, hb7_, hb8_, hb9_, hb10_, if_true, Act.put, List.setIfInBounds_toArray, List.set_cons_zero, List.set_cons_succ]
    have HX := Aside0.mk Q_HX
    clear Q_HX
    have HB := Aside0.mk Q_HB
    clear Q_HB
    have HG := Aside0.mk (Q_HG hb0_)
    clear Q_HG
    clear hall hb0_ hb1_ hb2_ hb3_ hb4_ hb5_ hb6_ hb7_ hb8_ hb9_ hb10_
    have HBB := HB.out
    go_wp2
    go_ret
    exact ⟨rfl, HBB⟩

set_option maxHeartbeats 8000000 in
theorem sDskText_twice (e : Ev) (hk : e.kind = 4) (h0 : InB e.kind 2 7) (h1 : InB e.at_ 0 999) (h2 : InB e.place 0 3) (h3 : InB e.keep 0 999) (w : World) :
    Calls Tryd.prog 5 #[e.val] w fun e' w' => e' = .returned (.string ((⟨#[116, 119, 105, 99, 101, 32]⟩ : ByteArray) ++ itoaB e.at_)) ∧ Below w.heap.size w w' := by
  simp only [Ev.val]
  have f0 : inB e.kind 2 7 = true := dec_true h0
  have f1 : inB e.at_ 0 999 = true := dec_true h1
  have f2 : inB e.place 0 3 = true := dec_true h2
  have f3 : inB e.keep 0 999 = true := dec_true h3
  have b1 : (e.kind == 1) = false := by simp [hk]
  have b5 : (e.kind == 5) = false := by simp [hk]
  have b7 : (e.kind == 7) = false := by simp [hk]
  have hz := itoaB_size e.at_ (by have := h1.1; omega) (by have := h1.2; omega)
  have HC := Lib.hid (fun W => l3PlainI_any e.at_ h1.1 h1.2 W)
  have HK := Lib.hid hk
  clear h0 h1 h2 h3 hk
  go_enter Tryd.func5, Tryd.ntmps5
  go_wp2_with (first | ((with_reducible refine gate_dst (N := 1) rfl ?_); refine box_event ?hg (N := 1) ?hd (cs := #[.int .i64 e.kind, .int .i64 e.op.kind, .int .i64 e.op.who, .int .i64 e.op.in_, .int .i64 e.op.code, .int .i64 e.op.sec, .int .i64 e.op.fam, .int .i64 e.op.gen, .int .i64 e.at_, .int .i64 e.place, .int .i64 e.keep]) (t := 29) ?hr ?_; (case hd => rfl); (case hg => rfl); (case hr => first | (go_simp; done) | (go_simp; rfl)); intro B hg w3 hbox hb; have c0 := (blk_cell hbox 0).trans (rfl : _ = some (Value.int .i64 e.kind)); have c1 := (blk_cell hbox 1).trans (rfl : _ = some (Value.int .i64 e.op.kind)); have c2 := (blk_cell hbox 2).trans (rfl : _ = some (Value.int .i64 e.op.who)); have c3 := (blk_cell hbox 3).trans (rfl : _ = some (Value.int .i64 e.op.in_)); have c4 := (blk_cell hbox 4).trans (rfl : _ = some (Value.int .i64 e.op.code)); have c5 := (blk_cell hbox 5).trans (rfl : _ = some (Value.int .i64 e.op.sec)); have c6 := (blk_cell hbox 6).trans (rfl : _ = some (Value.int .i64 e.op.fam)); have c7 := (blk_cell hbox 7).trans (rfl : _ = some (Value.int .i64 e.op.gen)); have c8 := (blk_cell hbox 8).trans (rfl : _ = some (Value.int .i64 e.at_)); have c9 := (blk_cell hbox 9).trans (rfl : _ = some (Value.int .i64 e.place)); have c10 := (blk_cell hbox 10).trans (rfl : _ = some (Value.int .i64 e.keep)); have HX := Lib.hid hbox; have HB := Lib.hid hb; clear hbox hb hg) | (go_at_call 14; refine (l1In_any _ _ _ _).mono ?_; rintro e' w' ⟨rfl, rfl⟩))
  clear c0 c1 c2 c3 c4 c5 c6 c7 c8 c9 c10 b1 b5 b7 f0 f1 f2 f3
  have hk := HK.out
  clear HK
  refine start_ (n := 11) (S := fun w' => True) (ds := []) #[false, false, false, false, false, false, false, false, false, false, false] (by kernel_rfl) rfl rfl trivial (fun hHeld => ?_)
  refine with_tabW dskAt.tab17 dskAt.bits17 (fun HT_ HW_ => ?_)
  generalize hw1_ : w3.drew = w1_ at hHeld ⊢
  have n0_ := Aside0.mk (show w1_.heap[B]? = some (.cells #[.int .i64 e.kind, .int .i64 e.op.kind, .int .i64 e.op.who, .int .i64 e.op.in_, .int .i64 e.op.code, .int .i64 e.op.sec, .int .i64 e.op.fam, .int .i64 e.op.gen, .int .i64 e.at_, .int .i64 e.place, .int .i64 e.keep] 29 (0, 0)) from hw1_ ▸ HX.out)
  have n1_ := Aside0.mk (show Below w.heap.size w w1_ from hw1_ ▸ below_drew1 HB.out)
  clear HX HB hw1_
  have HX := n0_
  have HB := n1_
  clear n0_ n1_
  refine inv_at [0, 1, 2, 3, 4, 5, 6, 7, 8, 9, 10] (fun a0_ b a w' => ∃ (g75 : Nat) (m0_ : Value) (m4_ : Value), a = putSel a0_ b [(0, 75, m0_), (1, 76, .pointer (some ⟨B, 0, none⟩)), (2, 77, .int .i64 4), (3, 78, .int .i64 2), (4, 79, m4_), (5, 80, .string (⟨#[116, 119, 105, 99, 101, 32]⟩ : ByteArray)), (6, 81, .pointer (some ⟨B, 8, none⟩)), (7, 82, .int .i64 e.at_), (8, 83, .string (itoaB e.at_)), (9, 84, .string ((⟨#[116, 119, 105, 99, 101, 32]⟩ : ByteArray) ++ itoaB e.at_)), (10, 2, .string ((⟨#[116, 119, 105, 99, 101, 32]⟩ : ByteArray) ++ itoaB e.at_))] ∧ (w'.heap[B]? = some (.cells #[.int .i64 e.kind, .int .i64 e.op.kind, .int .i64 e.op.who, .int .i64 e.op.in_, .int .i64 e.op.code, .int .i64 e.op.sec, .int .i64 e.op.fam, .int .i64 e.op.gen, .int .i64 e.at_, .int .i64 e.place, .int .i64 e.keep] 29 (0, 0))) ∧ (Below w.heap.size w w') ∧ (b 0 = true → w'.heap[g75]? = some (.cells hears 9 (0, 0))) ∧ (b 0 = true → (m0_ : Value) = .slice (some ⟨g75, 0, none⟩) 5 5) ∧ (b 4 = true → (m4_ : Value) = .pointer (some ⟨g75, 2, none⟩))) HT_.out HW_.out (by kernel_rfl) (by kernel_rfl) ?_ ?_ ?_
  · exact ⟨0, .bool false, .bool false, by simp only [putSel, Bool.false_eq_true, if_false], HX.out, HB.out, fun h_ => absurd h_ (by decide), fun h_ => absurd h_ (by decide), fun h_ => absurd h_ (by decide)⟩
  · skip
    clear HB HX
    refine steps_cons ?_ ?_
    · rintro b a w' ⟨g75, m0_, m4_, ha, Q_HX, Q_HB, Q_HG, Q_X0_, Q_X4_⟩ hb_ hon hoff
      refine ⟨_, rfl, fun K hK => ?_⟩
      replace ha := Aside0.mk ha
      have HX := Aside0.mk Q_HX
      have HB := Aside0.mk Q_HB
      refine lit_blk_step (cs := hears) (e := 9) (n := 5) ?hg (N := 75) ?hd ?hr ?_; (case hd => rfl); (case hg => rfl); (case hr => first | (go_simp; done) | (go_simp; rfl))
      intro g9_ w9_ hg_ hb_2
      refine hK.out _ _ ⟨g9_, (.slice (some ⟨g9_, 0, none⟩) 5 5), m4_, (by rw [ha.out]; exact putSel_upk 0 hb_ rfl rfl rfl), blk_below HX.out hb_2, below_step HB.out hb_2, fun _ => hg_, fun _ => rfl, fun h0_ => absurd ((hoff 4 (by kernel_rfl)).symm.trans h0_) (by decide)⟩
    refine steps_cons ?_ ?_
    · rintro b a w' ⟨g75, m0_, m4_, ha, Q_HX, Q_HB, Q_HG, Q_X0_, Q_X4_⟩ hb_ hon hoff
      refine ⟨_, rfl, fun K hK => ?_⟩
      have e1 : a.tmps[1]? = some (.pointer (some ⟨B, 0, none⟩)) := by rw [ha]; exact (putSel_off rfl).trans rfl
      replace ha := Aside0.mk ha
      have HX := Aside0.mk Q_HX
      have HB := Aside0.mk Q_HB
      refine value_ (w1 := w') (v := .pointer (some ⟨B, 0, none⟩)) (by rfl) rfl ?_ ?_
      · go_simp
        (try simp only [i64_w])
        try rfl
      refine hK.out _ _ ⟨g75, m0_, m4_, (by rw [ha.out]; exact putSel_upk 1 hb_ rfl rfl rfl), Q_HX, Q_HB, Q_HG, Q_X0_, fun h0_ => absurd ((hoff 4 (by kernel_rfl)).symm.trans h0_) (by decide)⟩
    refine steps_cons ?_ ?_
    · rintro b a w' ⟨g75, m0_, m4_, ha, Q_HX, Q_HB, Q_HG, Q_X0_, Q_X4_⟩ hb_ hon hoff
      refine ⟨_, rfl, fun K hK => ?_⟩
      have e76 : a.tmps[76]? = some (.pointer (some ⟨B, 0, none⟩)) := by rw [ha]; exact putSel_on (e := (1, 76, .pointer (some ⟨B, 0, none⟩))) 1 rfl rfl (hon 1 (by kernel_rfl)) rfl
      replace ha := Aside0.mk ha
      have HX := Aside0.mk Q_HX
      have HB := Aside0.mk Q_HB
      have hc_ := (blk_cell HX.out 0).trans (rfl : _ = some (Value.int .i64 e.kind))
      rw [hk] at hc_
      refine value_ (w1 := w') (v := .int .i64 4) (by rfl) rfl ?_ ?_
      · go_simp
        (try simp only [i64_w])
        try rfl
      refine hK.out _ _ ⟨g75, m0_, m4_, (by rw [ha.out]; exact putSel_upk 2 hb_ rfl rfl rfl), Q_HX, Q_HB, Q_HG, Q_X0_, fun h0_ => absurd ((hoff 4 (by kernel_rfl)).symm.trans h0_) (by decide)⟩
    refine steps_cons ?_ ?_
    · rintro b a w' ⟨g75, m0_, m4_, ha, Q_HX, Q_HB, Q_HG, Q_X0_, Q_X4_⟩ hb_ hon hoff
      refine ⟨_, rfl, fun K hK => ?_⟩
      have e77 : a.tmps[77]? = some (.int .i64 4) := by rw [ha]; exact putSel_on (e := (2, 77, .int .i64 4)) 2 rfl rfl (hon 2 (by kernel_rfl)) rfl
      replace ha := Aside0.mk ha
      have HX := Aside0.mk Q_HX
      have HB := Aside0.mk Q_HB
      have hw_ : wrap64 2 = 2 := IntWalk.wrap64_in _ ⟨by decide, by decide⟩
      refine value_ (w1 := w') (v := .int .i64 2) (by rfl) rfl ?_ ?_
      · go_simp
        first | done | rfl | exact hw_
      refine hK.out _ _ ⟨g75, m0_, m4_, (by rw [ha.out]; exact putSel_upk 3 hb_ rfl rfl rfl), Q_HX, Q_HB, Q_HG, Q_X0_, fun h0_ => absurd ((hoff 4 (by kernel_rfl)).symm.trans h0_) (by decide)⟩
    refine steps_cons ?_ ?_
    · rintro b a w' ⟨g75, m0_, m4_, ha, Q_HX, Q_HB, Q_HG, Q_X0_, Q_X4_⟩ hb_ hon hoff
      refine ⟨_, rfl, fun K hK => ?_⟩
      have e75 : a.tmps[75]? = some (m0_) := by rw [ha]; exact putSel_on (e := (0, 75, m0_)) 0 rfl rfl (hon 0 (by kernel_rfl)) rfl
      rw [Q_X0_ (hon 0 (by kernel_rfl))] at e75
      have e78 : a.tmps[78]? = some (.int .i64 2) := by rw [ha]; exact putSel_on (e := (3, 78, .int .i64 2)) 3 rfl rfl (hon 3 (by kernel_rfl)) rfl
      replace ha := Aside0.mk ha
      have HX := Aside0.mk Q_HX
      have HB := Aside0.mk Q_HB
      have HG := Aside0.mk (Q_HG (hon 0 (by kernel_rfl)))
      refine value_ (w1 := w') (v := .pointer (some ⟨g75, 2, none⟩)) (by rfl) rfl ?_ ?_
      · go_simp
        (try simp only [i64_w])
        try rfl
      refine hK.out _ _ ⟨g75, m0_, (.pointer (some ⟨g75, 2, none⟩)), (by rw [ha.out]; exact putSel_upk 4 hb_ rfl rfl rfl), Q_HX, Q_HB, Q_HG, Q_X0_, fun _ => rfl⟩
    refine steps_cons ?_ ?_
    · rintro b a w' ⟨g75, m0_, m4_, ha, Q_HX, Q_HB, Q_HG, Q_X0_, Q_X4_⟩ hb_ hon hoff
      refine ⟨_, rfl, fun K hK => ?_⟩
      have e79 : a.tmps[79]? = some (m4_) := by rw [ha]; exact putSel_on (e := (4, 79, m4_)) 4 rfl rfl (hon 4 (by kernel_rfl)) rfl
      rw [Q_X4_ (hon 4 (by kernel_rfl))] at e79
      replace ha := Aside0.mk ha
      have HX := Aside0.mk Q_HX
      have HB := Aside0.mk Q_HB
      have HG := Aside0.mk (Q_HG (hon 0 (by kernel_rfl)))
      have hc_ := (blk_cell HG.out 2).trans (rfl : _ = some (Value.string (⟨#[116, 119, 105, 99, 101, 32]⟩ : ByteArray)))
      refine value_ (w1 := w') (v := .string (⟨#[116, 119, 105, 99, 101, 32]⟩ : ByteArray)) (by rfl) rfl ?_ ?_
      · go_simp
        (try simp only [i64_w])
        try rfl
      refine hK.out _ _ ⟨g75, m0_, m4_, (by rw [ha.out]; exact putSel_upk 5 hb_ rfl rfl rfl), Q_HX, Q_HB, Q_HG, Q_X0_, Q_X4_⟩
    refine steps_cons ?_ ?_
    · rintro b a w' ⟨g75, m0_, m4_, ha, Q_HX, Q_HB, Q_HG, Q_X0_, Q_X4_⟩ hb_ hon hoff
      refine ⟨_, rfl, fun K hK => ?_⟩
      have e1 : a.tmps[1]? = some (.pointer (some ⟨B, 0, none⟩)) := by rw [ha]; exact (putSel_off rfl).trans rfl
      replace ha := Aside0.mk ha
      have HX := Aside0.mk Q_HX
      have HB := Aside0.mk Q_HB
      refine value_ (w1 := w') (v := .pointer (some ⟨B, 8, none⟩)) (by rfl) rfl ?_ ?_
      · go_simp
        (try simp only [i64_w])
        try rfl
      refine hK.out _ _ ⟨g75, m0_, m4_, (by rw [ha.out]; exact putSel_upk 6 hb_ rfl rfl rfl), Q_HX, Q_HB, Q_HG, Q_X0_, Q_X4_⟩
    refine steps_cons ?_ ?_
    · rintro b a w' ⟨g75, m0_, m4_, ha, Q_HX, Q_HB, Q_HG, Q_X0_, Q_X4_⟩ hb_ hon hoff
      refine ⟨_, rfl, fun K hK => ?_⟩
      have e81 : a.tmps[81]? = some (.pointer (some ⟨B, 8, none⟩)) := by rw [ha]; exact putSel_on (e := (6, 81, .pointer (some ⟨B, 8, none⟩))) 6 rfl rfl (hon 6 (by kernel_rfl)) rfl
      replace ha := Aside0.mk ha
      have HX := Aside0.mk Q_HX
      have HB := Aside0.mk Q_HB
      have hc_ := (blk_cell HX.out 8).trans (rfl : _ = some (Value.int .i64 e.at_))
      refine value_ (w1 := w') (v := .int .i64 e.at_) (by rfl) rfl ?_ ?_
      · go_simp
        (try simp only [i64_w])
        try rfl
      refine hK.out _ _ ⟨g75, m0_, m4_, (by rw [ha.out]; exact putSel_upk 7 hb_ rfl rfl rfl), Q_HX, Q_HB, Q_HG, Q_X0_, Q_X4_⟩
    refine steps_cons ?_ ?_
    · rintro b a w' ⟨g75, m0_, m4_, ha, Q_HX, Q_HB, Q_HG, Q_X0_, Q_X4_⟩ hb_ hon hoff
      refine ⟨_, rfl, fun K hK => ?_⟩
      have e82 : a.tmps[82]? = some (.int .i64 e.at_) := by rw [ha]; exact putSel_on (e := (7, 82, .int .i64 e.at_)) 7 rfl rfl (hon 7 (by kernel_rfl)) rfl
      replace ha := Aside0.mk ha
      have HX := Aside0.mk Q_HX
      have HB := Aside0.mk Q_HB
      refine goes_ Tryd.func13 (by kernel_rfl) rfl #[.int .i64 e.at_] (by rfl) rfl rfl (by first | (simp only [List.map_toArray, List.map_cons, List.map_nil, Act.eval, Array.getD_eq_getD_getElem?, Option.getD_some, e82]; done) | (simp only [List.map_toArray, List.map_cons, List.map_nil, Act.eval, Array.getD_eq_getD_getElem?, Option.getD_some, e82]; rfl)) ?_
      with_reducible refine (HC.out w').mono ?_
      rintro e9_ w9_ ⟨rfl, hb_2⟩
      refine ⟨_, rfl, ?_⟩
      refine hK.out _ _ ⟨g75, m0_, m4_, (by rw [ha.out]; exact putSel_upk 8 hb_ rfl rfl rfl), blk_below HX.out hb_2, below_step HB.out hb_2, fun h0_ => blk_below (Q_HG h0_) hb_2, Q_X0_, Q_X4_⟩
    refine steps_cons ?_ ?_
    · rintro b a w' ⟨g75, m0_, m4_, ha, Q_HX, Q_HB, Q_HG, Q_X0_, Q_X4_⟩ hb_ hon hoff
      refine ⟨_, rfl, fun K hK => ?_⟩
      have e80 : a.tmps[80]? = some (.string (⟨#[116, 119, 105, 99, 101, 32]⟩ : ByteArray)) := by rw [ha]; exact putSel_on (e := (5, 80, .string (⟨#[116, 119, 105, 99, 101, 32]⟩ : ByteArray))) 5 rfl rfl (hon 5 (by kernel_rfl)) rfl
      have e83 : a.tmps[83]? = some (.string (itoaB e.at_)) := by rw [ha]; exact putSel_on (e := (8, 83, .string (itoaB e.at_))) 8 rfl rfl (hon 8 (by kernel_rfl)) rfl
      replace ha := Aside0.mk ha
      have HX := Aside0.mk Q_HX
      have HB := Aside0.mk Q_HB
      have HG := Aside0.mk (Q_HG (hon 0 (by kernel_rfl)))
      have hz2_ : 6 + (itoaB e.at_).size ≤ 9223372036854775807 := by omega
      refine value_ (w1 := w') (v := .string ((⟨#[116, 119, 105, 99, 101, 32]⟩ : ByteArray) ++ itoaB e.at_)) (by rfl) rfl ?_ ?_
      · go_simp
        (try simp only [i64_w])
        try rfl
      refine hK.out _ _ ⟨g75, m0_, m4_, (by rw [ha.out]; exact putSel_upk 9 hb_ rfl rfl rfl), Q_HX, Q_HB, Q_HG, Q_X0_, Q_X4_⟩
    refine steps_cons ?_ ?_
    · rintro b a w' ⟨g75, m0_, m4_, ha, Q_HX, Q_HB, Q_HG, Q_X0_, Q_X4_⟩ hb_ hon hoff
      refine ⟨_, rfl, fun K hK => ?_⟩
      have e84 : a.tmps[84]? = some (.string ((⟨#[116, 119, 105, 99, 101, 32]⟩ : ByteArray) ++ itoaB e.at_)) := by rw [ha]; exact putSel_on (e := (9, 84, .string ((⟨#[116, 119, 105, 99, 101, 32]⟩ : ByteArray) ++ itoaB e.at_))) 9 rfl rfl (hon 9 (by kernel_rfl)) rfl
      replace ha := Aside0.mk ha
      have HX := Aside0.mk Q_HX
      have HB := Aside0.mk Q_HB
      have HG := Aside0.mk (Q_HG (hon 0 (by kernel_rfl)))
      refine value_ (w1 := w') (v := .string ((⟨#[116, 119, 105, 99, 101, 32]⟩ : ByteArray) ++ itoaB e.at_)) (by rfl) rfl ?_ ?_
      · go_simp
        (try simp only [i64_w])
        try rfl
      refine hK.out _ _ ⟨g75, m0_, m4_, (by rw [ha.out]; exact putSel_upk 10 hb_ rfl rfl rfl), Q_HX, Q_HB, Q_HG, Q_X0_, Q_X4_⟩
    exact steps_nil
  · rintro b a w' hall ⟨g75, m0_, m4_, ha, Q_HX, Q_HB, Q_HG, Q_X0_, Q_X4_⟩
    clear HB HX
    have hb0_ := hall 0 (by kernel_rfl)
    have hb1_ := hall 1 (by kernel_rfl)
    have hb2_ := hall 2 (by kernel_rfl)
    have hb3_ := hall 3 (by kernel_rfl)
    have hb4_ := hall 4 (by kernel_rfl)
    have hb5_ := hall 5 (by kernel_rfl)
    have hb6_ := hall 6 (by kernel_rfl)
    have hb7_ := hall 7 (by kernel_rfl)
    have hb8_ := hall 8 (by kernel_rfl)
    have hb9_ := hall 9 (by kernel_rfl)
    have hb10_ := hall 10 (by kernel_rfl)
    subst ha
    obtain rfl := Q_X0_ hb0_
    obtain rfl := Q_X4_ hb4_
    simp only [putSel, hb0_, hb1_, hb2_, hb3_, hb4_, hb5_, hb6_, hb7_, hb8_, hb9_, hb10_, if_true, Act.put, List.setIfInBounds_toArray, List.set_cons_zero, List.set_cons_succ]
    have HX := Aside0.mk Q_HX
    clear Q_HX
    have HB := Aside0.mk Q_HB
    clear Q_HB
    have HG := Aside0.mk (Q_HG hb0_)
    clear Q_HG
    clear hall hb0_ hb1_ hb2_ hb3_ hb4_ hb5_ hb6_ hb7_ hb8_ hb9_ hb10_
    have HBB := HB.out
    go_wp2
    go_ret
    exact ⟨rfl, HBB⟩

set_option maxHeartbeats 8000000 in
theorem sDskText_give (e : Ev) (hk : e.kind = 6) (h0 : InB e.kind 2 7) (h1 : InB e.at_ 0 999) (h2 : InB e.place 0 3) (h3 : InB e.keep 0 999) (w : World) :
    Calls Tryd.prog 5 #[e.val] w fun e' w' => e' = .returned (.string ((⟨#[103, 105, 118, 101, 32]⟩ : ByteArray) ++ itoaB e.at_)) ∧ Below w.heap.size w w' := by
  simp only [Ev.val]
  have f0 : inB e.kind 2 7 = true := dec_true h0
  have f1 : inB e.at_ 0 999 = true := dec_true h1
  have f2 : inB e.place 0 3 = true := dec_true h2
  have f3 : inB e.keep 0 999 = true := dec_true h3
  have b1 : (e.kind == 1) = false := by simp [hk]
  have b5 : (e.kind == 5) = false := by simp [hk]
  have b7 : (e.kind == 7) = false := by simp [hk]
  have hz := itoaB_size e.at_ (by have := h1.1; omega) (by have := h1.2; omega)
  have HC := Lib.hid (fun W => l3PlainI_any e.at_ h1.1 h1.2 W)
  have HK := Lib.hid hk
  clear h0 h1 h2 h3 hk
  go_enter Tryd.func5, Tryd.ntmps5
  go_wp2_with (first | ((with_reducible refine gate_dst (N := 1) rfl ?_); refine box_event ?hg (N := 1) ?hd (cs := #[.int .i64 e.kind, .int .i64 e.op.kind, .int .i64 e.op.who, .int .i64 e.op.in_, .int .i64 e.op.code, .int .i64 e.op.sec, .int .i64 e.op.fam, .int .i64 e.op.gen, .int .i64 e.at_, .int .i64 e.place, .int .i64 e.keep]) (t := 29) ?hr ?_; (case hd => rfl); (case hg => rfl); (case hr => first | (go_simp; done) | (go_simp; rfl)); intro B hg w3 hbox hb; have c0 := (blk_cell hbox 0).trans (rfl : _ = some (Value.int .i64 e.kind)); have c1 := (blk_cell hbox 1).trans (rfl : _ = some (Value.int .i64 e.op.kind)); have c2 := (blk_cell hbox 2).trans (rfl : _ = some (Value.int .i64 e.op.who)); have c3 := (blk_cell hbox 3).trans (rfl : _ = some (Value.int .i64 e.op.in_)); have c4 := (blk_cell hbox 4).trans (rfl : _ = some (Value.int .i64 e.op.code)); have c5 := (blk_cell hbox 5).trans (rfl : _ = some (Value.int .i64 e.op.sec)); have c6 := (blk_cell hbox 6).trans (rfl : _ = some (Value.int .i64 e.op.fam)); have c7 := (blk_cell hbox 7).trans (rfl : _ = some (Value.int .i64 e.op.gen)); have c8 := (blk_cell hbox 8).trans (rfl : _ = some (Value.int .i64 e.at_)); have c9 := (blk_cell hbox 9).trans (rfl : _ = some (Value.int .i64 e.place)); have c10 := (blk_cell hbox 10).trans (rfl : _ = some (Value.int .i64 e.keep)); have HX := Lib.hid hbox; have HB := Lib.hid hb; clear hbox hb hg) | (go_at_call 14; refine (l1In_any _ _ _ _).mono ?_; rintro e' w' ⟨rfl, rfl⟩))
  clear c0 c1 c2 c3 c4 c5 c6 c7 c8 c9 c10 b1 b5 b7 f0 f1 f2 f3
  have hk := HK.out
  clear HK
  refine start_ (n := 11) (S := fun w' => True) (ds := []) #[false, false, false, false, false, false, false, false, false, false, false] (by kernel_rfl) rfl rfl trivial (fun hHeld => ?_)
  refine with_tabW dskAt.tab17 dskAt.bits17 (fun HT_ HW_ => ?_)
  generalize hw1_ : w3.drew = w1_ at hHeld ⊢
  have n0_ := Aside0.mk (show w1_.heap[B]? = some (.cells #[.int .i64 e.kind, .int .i64 e.op.kind, .int .i64 e.op.who, .int .i64 e.op.in_, .int .i64 e.op.code, .int .i64 e.op.sec, .int .i64 e.op.fam, .int .i64 e.op.gen, .int .i64 e.at_, .int .i64 e.place, .int .i64 e.keep] 29 (0, 0)) from hw1_ ▸ HX.out)
  have n1_ := Aside0.mk (show Below w.heap.size w w1_ from hw1_ ▸ below_drew1 HB.out)
  clear HX HB hw1_
  have HX := n0_
  have HB := n1_
  clear n0_ n1_
  refine inv_at [0, 1, 2, 3, 4, 5, 6, 7, 8, 9, 10] (fun a0_ b a w' => ∃ (g75 : Nat) (m0_ : Value) (m4_ : Value), a = putSel a0_ b [(0, 75, m0_), (1, 76, .pointer (some ⟨B, 0, none⟩)), (2, 77, .int .i64 6), (3, 78, .int .i64 4), (4, 79, m4_), (5, 80, .string (⟨#[103, 105, 118, 101, 32]⟩ : ByteArray)), (6, 81, .pointer (some ⟨B, 8, none⟩)), (7, 82, .int .i64 e.at_), (8, 83, .string (itoaB e.at_)), (9, 84, .string ((⟨#[103, 105, 118, 101, 32]⟩ : ByteArray) ++ itoaB e.at_)), (10, 2, .string ((⟨#[103, 105, 118, 101, 32]⟩ : ByteArray) ++ itoaB e.at_))] ∧ (w'.heap[B]? = some (.cells #[.int .i64 e.kind, .int .i64 e.op.kind, .int .i64 e.op.who, .int .i64 e.op.in_, .int .i64 e.op.code, .int .i64 e.op.sec, .int .i64 e.op.fam, .int .i64 e.op.gen, .int .i64 e.at_, .int .i64 e.place, .int .i64 e.keep] 29 (0, 0))) ∧ (Below w.heap.size w w') ∧ (b 0 = true → w'.heap[g75]? = some (.cells hears 9 (0, 0))) ∧ (b 0 = true → (m0_ : Value) = .slice (some ⟨g75, 0, none⟩) 5 5) ∧ (b 4 = true → (m4_ : Value) = .pointer (some ⟨g75, 4, none⟩))) HT_.out HW_.out (by kernel_rfl) (by kernel_rfl) ?_ ?_ ?_
  · exact ⟨0, .bool false, .bool false, by simp only [putSel, Bool.false_eq_true, if_false], HX.out, HB.out, fun h_ => absurd h_ (by decide), fun h_ => absurd h_ (by decide), fun h_ => absurd h_ (by decide)⟩
  · skip
    clear HB HX
    refine steps_cons ?_ ?_
    · rintro b a w' ⟨g75, m0_, m4_, ha, Q_HX, Q_HB, Q_HG, Q_X0_, Q_X4_⟩ hb_ hon hoff
      refine ⟨_, rfl, fun K hK => ?_⟩
      replace ha := Aside0.mk ha
      have HX := Aside0.mk Q_HX
      have HB := Aside0.mk Q_HB
      refine lit_blk_step (cs := hears) (e := 9) (n := 5) ?hg (N := 75) ?hd ?hr ?_; (case hd => rfl); (case hg => rfl); (case hr => first | (go_simp; done) | (go_simp; rfl))
      intro g9_ w9_ hg_ hb_2
      refine hK.out _ _ ⟨g9_, (.slice (some ⟨g9_, 0, none⟩) 5 5), m4_, (by rw [ha.out]; exact putSel_upk 0 hb_ rfl rfl rfl), blk_below HX.out hb_2, below_step HB.out hb_2, fun _ => hg_, fun _ => rfl, fun h0_ => absurd ((hoff 4 (by kernel_rfl)).symm.trans h0_) (by decide)⟩
    refine steps_cons ?_ ?_
    · rintro b a w' ⟨g75, m0_, m4_, ha, Q_HX, Q_HB, Q_HG, Q_X0_, Q_X4_⟩ hb_ hon hoff
      refine ⟨_, rfl, fun K hK => ?_⟩
      have e1 : a.tmps[1]? = some (.pointer (some ⟨B, 0, none⟩)) := by rw [ha]; exact (putSel_off rfl).trans rfl
      replace ha := Aside0.mk ha
      have HX := Aside0.mk Q_HX
      have HB := Aside0.mk Q_HB
      refine value_ (w1 := w') (v := .pointer (some ⟨B, 0, none⟩)) (by rfl) rfl ?_ ?_
      · go_simp
        (try simp only [i64_w])
        try rfl
      refine hK.out _ _ ⟨g75, m0_, m4_, (by rw [ha.out]; exact putSel_upk 1 hb_ rfl rfl rfl), Q_HX, Q_HB, Q_HG, Q_X0_, fun h0_ => absurd ((hoff 4 (by kernel_rfl)).symm.trans h0_) (by decide)⟩
    refine steps_cons ?_ ?_
    · rintro b a w' ⟨g75, m0_, m4_, ha, Q_HX, Q_HB, Q_HG, Q_X0_, Q_X4_⟩ hb_ hon hoff
      refine ⟨_, rfl, fun K hK => ?_⟩
      have e76 : a.tmps[76]? = some (.pointer (some ⟨B, 0, none⟩)) := by rw [ha]; exact putSel_on (e := (1, 76, .pointer (some ⟨B, 0, none⟩))) 1 rfl rfl (hon 1 (by kernel_rfl)) rfl
      replace ha := Aside0.mk ha
      have HX := Aside0.mk Q_HX
      have HB := Aside0.mk Q_HB
      have hc_ := (blk_cell HX.out 0).trans (rfl : _ = some (Value.int .i64 e.kind))
      rw [hk] at hc_
      refine value_ (w1 := w') (v := .int .i64 6) (by rfl) rfl ?_ ?_
      · go_simp
        (try simp only [i64_w])
        try rfl
      refine hK.out _ _ ⟨g75, m0_, m4_, (by rw [ha.out]; exact putSel_upk 2 hb_ rfl rfl rfl), Q_HX, Q_HB, Q_HG, Q_X0_, fun h0_ => absurd ((hoff 4 (by kernel_rfl)).symm.trans h0_) (by decide)⟩
    refine steps_cons ?_ ?_
    · rintro b a w' ⟨g75, m0_, m4_, ha, Q_HX, Q_HB, Q_HG, Q_X0_, Q_X4_⟩ hb_ hon hoff
      refine ⟨_, rfl, fun K hK => ?_⟩
      have e77 : a.tmps[77]? = some (.int .i64 6) := by rw [ha]; exact putSel_on (e := (2, 77, .int .i64 6)) 2 rfl rfl (hon 2 (by kernel_rfl)) rfl
      replace ha := Aside0.mk ha
      have HX := Aside0.mk Q_HX
      have HB := Aside0.mk Q_HB
      have hw_ : wrap64 4 = 4 := IntWalk.wrap64_in _ ⟨by decide, by decide⟩
      refine value_ (w1 := w') (v := .int .i64 4) (by rfl) rfl ?_ ?_
      · go_simp
        first | done | rfl | exact hw_
      refine hK.out _ _ ⟨g75, m0_, m4_, (by rw [ha.out]; exact putSel_upk 3 hb_ rfl rfl rfl), Q_HX, Q_HB, Q_HG, Q_X0_, fun h0_ => absurd ((hoff 4 (by kernel_rfl)).symm.trans h0_) (by decide)⟩
    refine steps_cons ?_ ?_
    · rintro b a w' ⟨g75, m0_, m4_, ha, Q_HX, Q_HB, Q_HG, Q_X0_, Q_X4_⟩ hb_ hon hoff
      refine ⟨_, rfl, fun K hK => ?_⟩
      have e75 : a.tmps[75]? = some (m0_) := by rw [ha]; exact putSel_on (e := (0, 75, m0_)) 0 rfl rfl (hon 0 (by kernel_rfl)) rfl
      rw [Q_X0_ (hon 0 (by kernel_rfl))] at e75
      have e78 : a.tmps[78]? = some (.int .i64 4) := by rw [ha]; exact putSel_on (e := (3, 78, .int .i64 4)) 3 rfl rfl (hon 3 (by kernel_rfl)) rfl
      replace ha := Aside0.mk ha
      have HX := Aside0.mk Q_HX
      have HB := Aside0.mk Q_HB
      have HG := Aside0.mk (Q_HG (hon 0 (by kernel_rfl)))
      refine value_ (w1 := w') (v := .pointer (some ⟨g75, 4, none⟩)) (by rfl) rfl ?_ ?_
      · go_simp
        (try simp only [i64_w])
        try rfl
      refine hK.out _ _ ⟨g75, m0_, (.pointer (some ⟨g75, 4, none⟩)), (by rw [ha.out]; exact putSel_upk 4 hb_ rfl rfl rfl), Q_HX, Q_HB, Q_HG, Q_X0_, fun _ => rfl⟩
    refine steps_cons ?_ ?_
    · rintro b a w' ⟨g75, m0_, m4_, ha, Q_HX, Q_HB, Q_HG, Q_X0_, Q_X4_⟩ hb_ hon hoff
      refine ⟨_, rfl, fun K hK => ?_⟩
      have e79 : a.tmps[79]? = some (m4_) := by rw [ha]; exact putSel_on (e := (4, 79, m4_)) 4 rfl rfl (hon 4 (by kernel_rfl)) rfl
      rw [Q_X4_ (hon 4 (by kernel_rfl))] at e79
      replace ha := Aside0.mk ha
      have HX := Aside0.mk Q_HX
      have HB := Aside0.mk Q_HB
      have HG := Aside0.mk (Q_HG (hon 0 (by kernel_rfl)))
      have hc_ := (blk_cell HG.out 4).trans (rfl : _ = some (Value.string (⟨#[103, 105, 118, 101, 32]⟩ : ByteArray)))
      refine value_ (w1 := w') (v := .string (⟨#[103, 105, 118, 101, 32]⟩ : ByteArray)) (by rfl) rfl ?_ ?_
      · go_simp
        (try simp only [i64_w])
        try rfl
      refine hK.out _ _ ⟨g75, m0_, m4_, (by rw [ha.out]; exact putSel_upk 5 hb_ rfl rfl rfl), Q_HX, Q_HB, Q_HG, Q_X0_, Q_X4_⟩
    refine steps_cons ?_ ?_
    · rintro b a w' ⟨g75, m0_, m4_, ha, Q_HX, Q_HB, Q_HG, Q_X0_, Q_X4_⟩ hb_ hon hoff
      refine ⟨_, rfl, fun K hK => ?_⟩
      have e1 : a.tmps[1]? = some (.pointer (some ⟨B, 0, none⟩)) := by rw [ha]; exact (putSel_off rfl).trans rfl
      replace ha := Aside0.mk ha
      have HX := Aside0.mk Q_HX
      have HB := Aside0.mk Q_HB
      refine value_ (w1 := w') (v := .pointer (some ⟨B, 8, none⟩)) (by rfl) rfl ?_ ?_
      · go_simp
        (try simp only [i64_w])
        try rfl
      refine hK.out _ _ ⟨g75, m0_, m4_, (by rw [ha.out]; exact putSel_upk 6 hb_ rfl rfl rfl), Q_HX, Q_HB, Q_HG, Q_X0_, Q_X4_⟩
    refine steps_cons ?_ ?_
    · rintro b a w' ⟨g75, m0_, m4_, ha, Q_HX, Q_HB, Q_HG, Q_X0_, Q_X4_⟩ hb_ hon hoff
      refine ⟨_, rfl, fun K hK => ?_⟩
      have e81 : a.tmps[81]? = some (.pointer (some ⟨B, 8, none⟩)) := by rw [ha]; exact putSel_on (e := (6, 81, .pointer (some ⟨B, 8, none⟩))) 6 rfl rfl (hon 6 (by kernel_rfl)) rfl
      replace ha := Aside0.mk ha
      have HX := Aside0.mk Q_HX
      have HB := Aside0.mk Q_HB
      have hc_ := (blk_cell HX.out 8).trans (rfl : _ = some (Value.int .i64 e.at_))
      refine value_ (w1 := w') (v := .int .i64 e.at_) (by rfl) rfl ?_ ?_
      · go_simp
        (try simp only [i64_w])
        try rfl
      refine hK.out _ _ ⟨g75, m0_, m4_, (by rw [ha.out]; exact putSel_upk 7 hb_ rfl rfl rfl), Q_HX, Q_HB, Q_HG, Q_X0_, Q_X4_⟩
    refine steps_cons ?_ ?_
    · rintro b a w' ⟨g75, m0_, m4_, ha, Q_HX, Q_HB, Q_HG, Q_X0_, Q_X4_⟩ hb_ hon hoff
      refine ⟨_, rfl, fun K hK => ?_⟩
      have e82 : a.tmps[82]? = some (.int .i64 e.at_) := by rw [ha]; exact putSel_on (e := (7, 82, .int .i64 e.at_)) 7 rfl rfl (hon 7 (by kernel_rfl)) rfl
      replace ha := Aside0.mk ha
      have HX := Aside0.mk Q_HX
      have HB := Aside0.mk Q_HB
      refine goes_ Tryd.func13 (by kernel_rfl) rfl #[.int .i64 e.at_] (by rfl) rfl rfl (by first | (simp only [List.map_toArray, List.map_cons, List.map_nil, Act.eval, Array.getD_eq_getD_getElem?, Option.getD_some, e82]; done) | (simp only [List.map_toArray, List.map_cons, List.map_nil, Act.eval, Array.getD_eq_getD_getElem?, Option.getD_some, e82]; rfl)) ?_
      with_reducible refine (HC.out w').mono ?_
      rintro e9_ w9_ ⟨rfl, hb_2⟩
      refine ⟨_, rfl, ?_⟩
      refine hK.out _ _ ⟨g75, m0_, m4_, (by rw [ha.out]; exact putSel_upk 8 hb_ rfl rfl rfl), blk_below HX.out hb_2, below_step HB.out hb_2, fun h0_ => blk_below (Q_HG h0_) hb_2, Q_X0_, Q_X4_⟩
    refine steps_cons ?_ ?_
    · rintro b a w' ⟨g75, m0_, m4_, ha, Q_HX, Q_HB, Q_HG, Q_X0_, Q_X4_⟩ hb_ hon hoff
      refine ⟨_, rfl, fun K hK => ?_⟩
      have e80 : a.tmps[80]? = some (.string (⟨#[103, 105, 118, 101, 32]⟩ : ByteArray)) := by rw [ha]; exact putSel_on (e := (5, 80, .string (⟨#[103, 105, 118, 101, 32]⟩ : ByteArray))) 5 rfl rfl (hon 5 (by kernel_rfl)) rfl
      have e83 : a.tmps[83]? = some (.string (itoaB e.at_)) := by rw [ha]; exact putSel_on (e := (8, 83, .string (itoaB e.at_))) 8 rfl rfl (hon 8 (by kernel_rfl)) rfl
      replace ha := Aside0.mk ha
      have HX := Aside0.mk Q_HX
      have HB := Aside0.mk Q_HB
      have HG := Aside0.mk (Q_HG (hon 0 (by kernel_rfl)))
      have hz2_ : 5 + (itoaB e.at_).size ≤ 9223372036854775807 := by omega
      refine value_ (w1 := w') (v := .string ((⟨#[103, 105, 118, 101, 32]⟩ : ByteArray) ++ itoaB e.at_)) (by rfl) rfl ?_ ?_
      · go_simp
        (try simp only [i64_w])
        try rfl
      refine hK.out _ _ ⟨g75, m0_, m4_, (by rw [ha.out]; exact putSel_upk 9 hb_ rfl rfl rfl), Q_HX, Q_HB, Q_HG, Q_X0_, Q_X4_⟩
    refine steps_cons ?_ ?_
    · rintro b a w' ⟨g75, m0_, m4_, ha, Q_HX, Q_HB, Q_HG, Q_X0_, Q_X4_⟩ hb_ hon hoff
      refine ⟨_, rfl, fun K hK => ?_⟩
      have e84 : a.tmps[84]? = some (.string ((⟨#[103, 105, 118, 101, 32]⟩ : ByteArray) ++ itoaB e.at_)) := by rw [ha]; exact putSel_on (e := (9, 84, .string ((⟨#[103, 105, 118, 101, 32]⟩ : ByteArray) ++ itoaB e.at_))) 9 rfl rfl (hon 9 (by kernel_rfl)) rfl
      replace ha := Aside0.mk ha
      have HX := Aside0.mk Q_HX
      have HB := Aside0.mk Q_HB
      have HG := Aside0.mk (Q_HG (hon 0 (by kernel_rfl)))
      refine value_ (w1 := w') (v := .string ((⟨#[103, 105, 118, 101, 32]⟩ : ByteArray) ++ itoaB e.at_)) (by rfl) rfl ?_ ?_
      · go_simp
        (try simp only [i64_w])
        try rfl
      refine hK.out _ _ ⟨g75, m0_, m4_, (by rw [ha.out]; exact putSel_upk 10 hb_ rfl rfl rfl), Q_HX, Q_HB, Q_HG, Q_X0_, Q_X4_⟩
    exact steps_nil
  · rintro b a w' hall ⟨g75, m0_, m4_, ha, Q_HX, Q_HB, Q_HG, Q_X0_, Q_X4_⟩
    clear HB HX
    have hb0_ := hall 0 (by kernel_rfl)
    have hb1_ := hall 1 (by kernel_rfl)
    have hb2_ := hall 2 (by kernel_rfl)
    have hb3_ := hall 3 (by kernel_rfl)
    have hb4_ := hall 4 (by kernel_rfl)
    have hb5_ := hall 5 (by kernel_rfl)
    have hb6_ := hall 6 (by kernel_rfl)
    have hb7_ := hall 7 (by kernel_rfl)
    have hb8_ := hall 8 (by kernel_rfl)
    have hb9_ := hall 9 (by kernel_rfl)
    have hb10_ := hall 10 (by kernel_rfl)
    subst ha
    obtain rfl := Q_X0_ hb0_
    obtain rfl := Q_X4_ hb4_
    simp only [putSel, hb0_, hb1_, hb2_, hb3_, hb4_, hb5_, hb6_, hb7_, hb8_, hb9_, hb10_, if_true, Act.put, List.setIfInBounds_toArray, List.set_cons_zero, List.set_cons_succ]
    have HX := Aside0.mk Q_HX
    clear Q_HX
    have HB := Aside0.mk Q_HB
    clear Q_HB
    have HG := Aside0.mk (Q_HG hb0_)
    clear Q_HG
    clear hall hb0_ hb1_ hb2_ hb3_ hb4_ hb5_ hb6_ hb7_ hb8_ hb9_ hb10_
    have HBB := HB.out
    go_wp2
    go_ret
    exact ⟨rfl, HBB⟩
end Go.Proofs.YtaeifbmdjjmgkaaDoor
