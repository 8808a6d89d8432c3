/- For every event the law FnExactDskText answers true, the package's tables laid as the program's text lays them: the tied card. Conditions: none beyond the row's own. -/
import Derived.Test.YtaeifbmdjjmgkaaDoorLawDskText
import Derived.Test.YtaeifbmdjjmgkaaDoorRows
import Derived.Test.YtaeifbmdjjmgkaaDoorCards
import Derived.Test.YtaeifbmdjjmgkaaDoorTie
import Derived.ProofKit
import Derived.LaidMore
import Derived.OpenShut
import Derived.Stop.Joined
import Derived.SevenTiedAt
import Derived.Lib.LaidTab
namespace Go.Proofs.YtaeifbmdjjmgkaaDoor
open Go.ChangeShapes Go.WideShapes Go.ChangeAt Go.WideMaps Go.WideElems Go.RowKit
set_option linter.unusedVariables false
set_option linter.unusedSimpArgs false

theorem own : ownKnob Tryd.prog.godebug = none := by kernel_rfl
theorem laidOut : laidOutB Tryd.prog = true := by kernel_rfl
def laid3 : List (String × DataW Unit) := [("math/bits.deBruijn32tab", Rows.laid_math_bits_deBruijn32tab), ("math/bits.deBruijn64tab", Rows.laid_math_bits_deBruijn64tab), ("internal/strconv.uint64pow10", Rows.laid_internal_strconv_uint64pow10)]
theorem gPow : Tryd.prog.globalNamed "internal/strconv.uint64pow10" = some 2 := by kernel_rfl
theorem tPow : (Tryd.prog.globals[2]?).map (·.type) = some 96 := by kernel_rfl
theorem tab_of_laid {W : World} (h : laidMetH Tryd.prog laid3 W) : Tab W := by
  rw [MakeChecks.laidMetH_plain _ _ _ (by kernel_rfl)] at h
  obtain ⟨ps, ⟨g0, t0, cs0, f0, p0, q0, hg0, ht0, hv0, hd0, ⟨g1, t1, cs1, f1, p1, q1, hg1, ht1, hv1, hd1, ⟨g2, t2, cs2, f2, p2, q2, hg2, ht2, hv2, hd2, _, _⟩, _⟩, _⟩, _, _⟩ := h
  obtain rfl := Option.some.inj (gPow.symm.trans hg2)
  obtain rfl := Option.some.inj (tPow.symm.trans ht2)
  have hc := Lib.cells_of_tab (k := .u64) (zs := Lib.pow10Tab) Tryd.underlying96 Tryd.underlying79 (by kernel_rfl) (by kernel_rfl) (show DataW.trod _ _ _ _ _ _ _ _ _ = some (Lib.tabData .u64 Lib.pow10Tab, _) from hd2)
  unfold Tab Lib.TabIs
  rw [hv2]
  congr 1
  apply Array.ext'
  rw [hc]

/-- The door's own heap meets the condition. -/
theorem door_met (os : Os) (args : Array Value) : laidMetH Tryd.prog laid3 ((World.doorLaid Tryd.prog 4000 os).forCall (fun _ _ => 0) ⟨#[], args, []⟩).memory :=
  laidMetH_of_parts3 (fuel := 8) (laidMet_of_run' 8 (by kernel_rfl) (by kernel_rfl)) (by kernel_rfl) (by kernel_rfl)

theorem array11 {α : Type} {cs : Array α} (h : cs.size = 11) : ∃ c0 c1 c2 c3 c4 c5 c6 c7 c8 c9 c10, cs = #[c0, c1, c2, c3, c4, c5, c6, c7, c8, c9, c10] := by
  obtain ⟨l⟩ := cs
  match l, h with
  | [c0, c1, c2, c3, c4, c5, c6, c7, c8, c9, c10], _ => exact ⟨c0, c1, c2, c3, c4, c5, c6, c7, c8, c9, c10, rfl⟩
section
variable {H : Type} {enc : TypeId × Value → H} {w : World} {base : Nat} {spare : Nat → Bool} {held : Bool}
set_option maxRecDepth 100000 in
theorem open_evs {r : Reach} {b0 : Nat} {v : Value} {d : DataW H} {p : List MemPlace} (hv : Value.okWide Tryd.prog w r b0 25 v) (h : DataW.Trod enc Tryd.prog w base spare held 25 v d p) :
    ∃ e : Ev, v = e.val ∧ ∀ o, -9223372036854775808 ≤ e.fld o ∧ e.fld o ≤ 9223372036854775807 := by
  obtain ⟨cs, rfl, hsz⟩ := okWide_struct Tryd.underlying25 hv
  have k11 : Tryd.prog.cellsOf 25 = 11 := by kernel_rfl
  rw [k11] at hsz
  obtain ⟨c0, c1, c2, c3, c4, c5, c6, c7, c8, c9, c10, rfl⟩ := array11 hsz
  obtain ⟨fuel, hf⟩ := h
  obtain ⟨xs, n, _, _, _, hlen, hfi⟩ := DataW.trod_struct Tryd.underlying25 hf
  have k3 : Tryd.prog.cellsOf 3 = 1 := by kernel_rfl
  have k7 : Tryd.prog.cellsOf 23 = 7 := by kernel_rfl
  have hx : ∀ i, i < xs.length → ∃ x, xs[i]? = some x := fun i hi => ⟨xs[i], List.getElem?_eq_getElem hi⟩
  obtain ⟨x0, e0⟩ := hx 0 (by rw [hlen]; decide)
  obtain ⟨x1, e1⟩ := hx 1 (by rw [hlen]; decide)
  obtain ⟨x2, e2⟩ := hx 2 (by rw [hlen]; decide)
  obtain ⟨x3, e3⟩ := hx 3 (by rw [hlen]; decide)
  obtain ⟨x4, e4⟩ := hx 4 (by rw [hlen]; decide)
  have f0 : DataW.trod enc Tryd.prog w base spare held n 3 ((List.drop 0 ([c0, c1, c2, c3, c4, c5, c6, c7, c8, c9, c10] : List Value)).take (Tryd.prog.cellsOf 3)) = some x0 := (hfi 0 _ rfl).trans e0
  rw [k3] at f0
  have f1 : DataW.trod enc Tryd.prog w base spare held n 23 ((List.drop 1 ([c0, c1, c2, c3, c4, c5, c6, c7, c8, c9, c10] : List Value)).take (Tryd.prog.cellsOf 23)) = some x1 := (hfi 1 _ rfl).trans e1
  rw [k7] at f1
  have f2 : DataW.trod enc Tryd.prog w base spare held n 3 ((List.drop 8 ([c0, c1, c2, c3, c4, c5, c6, c7, c8, c9, c10] : List Value)).take (Tryd.prog.cellsOf 3)) = some x2 := (hfi 2 _ rfl).trans e2
  rw [k3] at f2
  have f3 : DataW.trod enc Tryd.prog w base spare held n 3 ((List.drop 9 ([c0, c1, c2, c3, c4, c5, c6, c7, c8, c9, c10] : List Value)).take (Tryd.prog.cellsOf 3)) = some x3 := (hfi 3 _ rfl).trans e3
  rw [k3] at f3
  have f4 : DataW.trod enc Tryd.prog w base spare held n 3 ((List.drop 10 ([c0, c1, c2, c3, c4, c5, c6, c7, c8, c9, c10] : List Value)).take (Tryd.prog.cellsOf 3)) = some x4 := (hfi 4 _ rfl).trans e4
  rw [k3] at f4
  obtain ⟨n0, h0, _, w0⟩ := DataW.trod_int Tryd.underlying3 f0
  obtain ⟨n8, h8, _, w8⟩ := DataW.trod_int Tryd.underlying3 f2
  obtain ⟨n9, h9, _, w9⟩ := DataW.trod_int Tryd.underlying3 f3
  obtain ⟨n10, h10, _, w10⟩ := DataW.trod_int Tryd.underlying3 f4
  obtain ⟨ys, m, _, _, _, hlen2, hgi⟩ := DataW.trod_struct Tryd.underlying23 f1
  have hy : ∀ i, i < ys.length → ∃ x, ys[i]? = some x := fun i hi => ⟨ys[i], List.getElem?_eq_getElem hi⟩
  obtain ⟨y0, d0⟩ := hy 0 (by rw [hlen2]; decide)
  obtain ⟨y1, d1⟩ := hy 1 (by rw [hlen2]; decide)
  obtain ⟨y2, d2⟩ := hy 2 (by rw [hlen2]; decide)
  obtain ⟨y3, d3⟩ := hy 3 (by rw [hlen2]; decide)
  obtain ⟨y4, d4⟩ := hy 4 (by rw [hlen2]; decide)
  obtain ⟨y5, d5⟩ := hy 5 (by rw [hlen2]; decide)
  obtain ⟨y6, d6⟩ := hy 6 (by rw [hlen2]; decide)
  have g0 : DataW.trod enc Tryd.prog w base spare held m 3 ((List.drop 0 ((List.drop 1 ([c0, c1, c2, c3, c4, c5, c6, c7, c8, c9, c10] : List Value)).take 7)).take (Tryd.prog.cellsOf 3)) = some y0 := (hgi 0 _ rfl).trans d0
  rw [k3] at g0
  have g1 : DataW.trod enc Tryd.prog w base spare held m 3 ((List.drop 1 ((List.drop 1 ([c0, c1, c2, c3, c4, c5, c6, c7, c8, c9, c10] : List Value)).take 7)).take (Tryd.prog.cellsOf 3)) = some y1 := (hgi 1 _ rfl).trans d1
  rw [k3] at g1
  have g2 : DataW.trod enc Tryd.prog w base spare held m 3 ((List.drop 2 ((List.drop 1 ([c0, c1, c2, c3, c4, c5, c6, c7, c8, c9, c10] : List Value)).take 7)).take (Tryd.prog.cellsOf 3)) = some y2 := (hgi 2 _ rfl).trans d2
  rw [k3] at g2
  have g3 : DataW.trod enc Tryd.prog w base spare held m 3 ((List.drop 3 ((List.drop 1 ([c0, c1, c2, c3, c4, c5, c6, c7, c8, c9, c10] : List Value)).take 7)).take (Tryd.prog.cellsOf 3)) = some y3 := (hgi 3 _ rfl).trans d3
  rw [k3] at g3
  have g4 : DataW.trod enc Tryd.prog w base spare held m 3 ((List.drop 4 ((List.drop 1 ([c0, c1, c2, c3, c4, c5, c6, c7, c8, c9, c10] : List Value)).take 7)).take (Tryd.prog.cellsOf 3)) = some y4 := (hgi 4 _ rfl).trans d4
  rw [k3] at g4
  have g5 : DataW.trod enc Tryd.prog w base spare held m 3 ((List.drop 5 ((List.drop 1 ([c0, c1, c2, c3, c4, c5, c6, c7, c8, c9, c10] : List Value)).take 7)).take (Tryd.prog.cellsOf 3)) = some y5 := (hgi 5 _ rfl).trans d5
  rw [k3] at g5
  have g6 : DataW.trod enc Tryd.prog w base spare held m 3 ((List.drop 6 ((List.drop 1 ([c0, c1, c2, c3, c4, c5, c6, c7, c8, c9, c10] : List Value)).take 7)).take (Tryd.prog.cellsOf 3)) = some y6 := (hgi 6 _ rfl).trans d6
  rw [k3] at g6
  obtain ⟨n1, h1, _, w1⟩ := DataW.trod_int Tryd.underlying3 g0
  obtain ⟨n2, h2, _, w2⟩ := DataW.trod_int Tryd.underlying3 g1
  obtain ⟨n3, h3, _, w3⟩ := DataW.trod_int Tryd.underlying3 g2
  obtain ⟨n4, h4, _, w4⟩ := DataW.trod_int Tryd.underlying3 g3
  obtain ⟨n5, h5, _, w5⟩ := DataW.trod_int Tryd.underlying3 g4
  obtain ⟨n6, h6, _, w6⟩ := DataW.trod_int Tryd.underlying3 g5
  obtain ⟨n7, h7, _, w7⟩ := DataW.trod_int Tryd.underlying3 g6
  simp at h0 h1 h2 h3 h4 h5 h6 h7 h8 h9 h10
  subst h0 h1 h2 h3 h4 h5 h6 h7 h8 h9 h10
  refine ⟨⟨n0, ⟨n1, n2, n3, n4, n5, n6, n7⟩, n8, n9, n10⟩, rfl, fun o => ?_⟩
  simp only [Lit.wf, Bool.and_eq_true, decide_eq_true_eq] at w0 w1 w2 w3 w4 w5 w6 w7 w8 w9 w10
  match o with
  | 0 => exact w0
  | 1 => exact w1
  | 2 => exact w2
  | 3 => exact w3
  | 4 => exact w4
  | 5 => exact w5
  | 6 => exact w6
  | 7 => exact w7
  | 8 => exact w8
  | 9 => exact w9
  | 10 => exact w10
  | k + 11 => exact ⟨(by decide : (-9223372036854775808 : Int) ≤ 0), (by decide : (0 : Int) ≤ 9223372036854775807)⟩
end

set_option maxRecDepth 100000 in
theorem lifted (os : Os) (started : os.Started) (H : Type) (enc : TypeId × Value → H) :
    ReturnsInHanded {} Tryd.checked os 3 .any (fun w args => (Rows.fnExactDskTextSpec.pre enc Tryd.prog Tryd.f3 [] false w args ∧ laidMetH Tryd.prog laid3 w) ∧ sizedMet enc Tryd.prog Tryd.f3 (OpenSpec.ofChange Rows.fnExactDskTextSpec) false w args)
      (Rows.fnExactDskTextSpec.post enc Tryd.prog Tryd.f3 false true false false) := by
  refine returnsInHanded_of_change_and (C := Tryd.checked) (X := fun w _ => laidMetH Tryd.prog laid3 w) (fun _ _ _ hh h => h.of_heap hh) own started (by kernel_rfl) Tryd.func3
    (ChangeSpec.witness_shaped (enc := enc) (C := Tryd.checked) (os := os) (X := fun w _ => laidMetH Tryd.prog laid3 w) false (World.doorLaid Tryd.prog 4000 os) #[(Ev.mk 0 ⟨0, 0, 0, 0, 0, 0, 0⟩ 0 0 0).val] 8 rfl (World.shaped_of_RefB (by kernel_rfl) (by kernel_rfl)) (by kernel_rfl) (by kernel_rfl) (by kernel_rfl) (door_met os _)) ?_
  intro W base args ds gs before hval0 hW _ _ hL _
  have hval : ∀ (j : Nat) t v, Tryd.f3.params[j]? = some t → args[j]? = some v → Value.okWide Tryd.prog W .any base t v := hval0
  have hW' := hW
  obtain ⟨p, q, hA0, hV, rfl, hfz, hnd⟩ := hW
  have hA : DataW.TrodAll enc Tryd.prog W 0 (fun _ => true) true Tryd.f3.params.toList args.toList ds p := hA0
  rw [Tryd.params3] at hA hval
  obtain ⟨v0, d0, rfl, rfl, h0⟩ := trodAll_one hA
  obtain ⟨rfl, rfl⟩ := trodVars_none hV
  have k0 := h0
  have lt0 : ∀ x ∈ p, x.block < W.heap.size := by obtain ⟨m, hm⟩ := k0; exact DataW.trod_lt m _ _ _ hm
  obtain ⟨e, rfl, he⟩ := open_evs (hval 0 25 v0 rfl rfl) h0
  have ht := tab_of_laid hL
  clear hA0 hval0
  simp only [List.append_nil] at hW'
  refine (law_dskText e he W ht).mono fun e' W' ⟨he', bel⟩ => ?_
  subst he'
  exact ⟨_, rfl, _, _, _, [], _, [], hW', trodAll_mk1 (shut_bool Tryd.underlying4 _), trodAll_mk1 (Below.trod laidOut (by kernel_rfl) (of_decide_eq_true (by kernel_rfl)) k0 bel lt0), rfl, bel.frame _, fun h => by cases h⟩

theorem fnExactDskText_holds : Rows.FnExactDskTextSaid :=
  OpenClaim.holds_of_wide 3 Tryd.f3 rfl rfl rfl rfl rfl rfl rfl ⟨rfl, rfl, rfl, rfl, rfl⟩ rfl rfl rfl rfl rfl (by kernel_rfl) Tryd.func3 (by kernel_rfl)
    (of_decide_eq_true (by kernel_rfl)) (by unfold Func.isWrapper; first | (rw [if_pos (by decide +kernel)]; kernel_rfl) | (rw [if_neg (by decide +kernel)]; exact ⟨rfl, rfl⟩))
    (fun os started H enc _ => lifted os started H enc)

theorem fnExactDskText_card : Rows.FnExactDskTextCardSaid :=
  Claim7.holds_tied_plain_at .later [] [.data, .data, .data] true Rows.fnExactDskTextCard.stood.harness true
    fnExactDskText_holds (fun _ h => by cases h) (by kernel_rfl) (fun _ h => by cases h) fnExactDskText_row_tie rfl ⟨rfl, rfl⟩ (by kernel_rfl) rfl
    (fun f fn hf hfn => by
      obtain rfl : f = 3 := Option.some.inj ((show Tryd.prog.funcNamed "loop.example/janitor/laws.FnExactDskText" = some 3 by kernel_rfl).symm.trans hf) |>.symm
      obtain rfl : fn = Tryd.f3 := (Option.some.inj (Tryd.func3.symm.trans hfn)).symm
      exact ⟨by kernel_rfl, fun j t ht => by
        rw [Tryd.params3] at ht
        have hm : t ∈ [25] := by simpa using Array.mem_of_getElem? ht
        have hall : ([25].all fun u => !Tryd.prog.wantsStandIn u) = true := by kernel_rfl
        exact (show Tryd.prog.wantsStandIn t = false by simpa using List.all_eq_true.1 hall t hm)⟩)
    (by kernel_rfl)
#print axioms fnExactDskText_card
end Go.Proofs.YtaeifbmdjjmgkaaDoor
