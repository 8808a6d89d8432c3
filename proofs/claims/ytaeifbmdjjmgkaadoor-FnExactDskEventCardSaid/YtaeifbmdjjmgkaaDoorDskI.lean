/- How the program's DskEvent reads a line. Conditions: none. -/
import Derived.Test.YtaeifbmdjjmgkaaDoorDskJ
import Derived.Test.YtaeifbmdjjmgkaaDoorDskU
import Derived.Test.YtaeifbmdjjmgkaaDoorWMore
namespace Go.Proofs.YtaeifbmdjjmgkaaDoor
open Go.RowKit Go.Proofs.YtaeifbmdjjmgkaaDoorW.PrintWords
set_option linter.unusedVariables false
set_option linter.unusedSimpArgs false
set_option maxRecDepth 100000

def Ev.put (e : Ev) (o : Nat) (v : Int) : Ev := match o with
  | 0 => { e with kind := v }
  | 1 => { e with op := { e.op with kind := v } }
  | 2 => { e with op := { e.op with who := v } }
  | 3 => { e with op := { e.op with in_ := v } }
  | 4 => { e with op := { e.op with code := v } }
  | 5 => { e with op := { e.op with sec := v } }
  | 6 => { e with op := { e.op with fam := v } }
  | 7 => { e with op := { e.op with gen := v } }
  | 8 => { e with at_ := v }
  | 9 => { e with place := v }
  | _ => { e with keep := v }
theorem Ev.put_cells (e : Ev) (o : Nat) (ho : o < 11) (v : Int) : e.cells.setIfInBounds o (.int .i64 v) = (e.put o v).cells := by
  match o, ho with
  | 0, _ => rfl
  | 1, _ => rfl
  | 2, _ => rfl
  | 3, _ => rfl
  | 4, _ => rfl
  | 5, _ => rfl
  | 6, _ => rfl
  | 7, _ => rfl
  | 8, _ => rfl
  | 9, _ => rfl
  | 10, _ => rfl
def evStart (m : Man) : Ev := ⟨m.kind, ⟨m.op, 0, 0, 0, 0, 0, 0⟩, 0, 0, 0⟩
/-- The first numbers of a line are laid. -/
def evLaid (m : Man) (f : Nat → Int) : Nat → Ev
  | 0 => evStart m
  | j + 1 => (evLaid m f j).put (ix 0 m.offs j) (f j)
theorem eg26 : ∀ args w, (callFunc 26 args).run Tryd.prog w = .ok (.enter 26 args) w := fun args w => Go.Proofs.YtaeifbmdjjmgkaaDoorW.PrintLast.enters_ Tryd.func26 (by kernel_rfl) rfl args w
theorem Ev.put_fld (e : Ev) (o : Nat) (v : Int) (p : Nat) : (e.put o v).fld p = e.fld p ∨ (e.put o v).fld p = v := by
  by_cases hp : p < 11
  · by_cases ho : o < 10
    · have h : ∀ o < 10, ∀ p < 11, (e.put o v).fld p = e.fld p ∨ (e.put o v).fld p = v := by
        intro o ho p hp
        match o, ho with
        | 0, _ => match p, hp with
          | 0, _ => exact .inr rfl
          | p + 1, _ => exact .inl rfl
        | 1, _ => match p, hp with
          | 0, _ => exact .inl rfl
          | 1, _ => exact .inr rfl
          | p + 2, _ => exact .inl rfl
        | 2, _ => match p, hp with
          | 0, _ => exact .inl rfl
          | 1, _ => exact .inl rfl
          | 2, _ => exact .inr rfl
          | p + 3, _ => exact .inl rfl
        | 3, _ => match p, hp with
          | 0, _ => exact .inl rfl
          | 1, _ => exact .inl rfl
          | 2, _ => exact .inl rfl
          | 3, _ => exact .inr rfl
          | p + 4, _ => exact .inl rfl
        | 4, _ => match p, hp with
          | 0, _ => exact .inl rfl
          | 1, _ => exact .inl rfl
          | 2, _ => exact .inl rfl
          | 3, _ => exact .inl rfl
          | 4, _ => exact .inr rfl
          | p + 5, _ => exact .inl rfl
        | 5, _ => match p, hp with
          | 0, _ => exact .inl rfl
          | 1, _ => exact .inl rfl
          | 2, _ => exact .inl rfl
          | 3, _ => exact .inl rfl
          | 4, _ => exact .inl rfl
          | 5, _ => exact .inr rfl
          | p + 6, _ => exact .inl rfl
        | 6, _ => match p, hp with
          | 0, _ => exact .inl rfl
          | 1, _ => exact .inl rfl
          | 2, _ => exact .inl rfl
          | 3, _ => exact .inl rfl
          | 4, _ => exact .inl rfl
          | 5, _ => exact .inl rfl
          | 6, _ => exact .inr rfl
          | p + 7, _ => exact .inl rfl
        | 7, _ => match p, hp with
          | 0, _ => exact .inl rfl
          | 1, _ => exact .inl rfl
          | 2, _ => exact .inl rfl
          | 3, _ => exact .inl rfl
          | 4, _ => exact .inl rfl
          | 5, _ => exact .inl rfl
          | 6, _ => exact .inl rfl
          | 7, _ => exact .inr rfl
          | p + 8, _ => exact .inl rfl
        | 8, _ => match p, hp with
          | 0, _ => exact .inl rfl
          | 1, _ => exact .inl rfl
          | 2, _ => exact .inl rfl
          | 3, _ => exact .inl rfl
          | 4, _ => exact .inl rfl
          | 5, _ => exact .inl rfl
          | 6, _ => exact .inl rfl
          | 7, _ => exact .inl rfl
          | 8, _ => exact .inr rfl
          | p + 9, _ => exact .inl rfl
        | 9, _ => match p, hp with
          | 0, _ => exact .inl rfl
          | 1, _ => exact .inl rfl
          | 2, _ => exact .inl rfl
          | 3, _ => exact .inl rfl
          | 4, _ => exact .inl rfl
          | 5, _ => exact .inl rfl
          | 6, _ => exact .inl rfl
          | 7, _ => exact .inl rfl
          | 8, _ => exact .inl rfl
          | 9, _ => exact .inr rfl
          | 10, _ => exact .inl rfl
      exact h o ho p hp
    · obtain ⟨q, rfl⟩ : ∃ q, o = q + 10 := ⟨o - 10, by omega⟩
      match p, hp with
      | 0, _ => exact .inl rfl
      | 1, _ => exact .inl rfl
      | 2, _ => exact .inl rfl
      | 3, _ => exact .inl rfl
      | 4, _ => exact .inl rfl
      | 5, _ => exact .inl rfl
      | 6, _ => exact .inl rfl
      | 7, _ => exact .inl rfl
      | 8, _ => exact .inl rfl
      | 9, _ => exact .inl rfl
      | 10, _ => exact .inr rfl
  · obtain ⟨q, rfl⟩ : ∃ q, p = q + 11 := ⟨p - 11, by omega⟩
    exact .inl rfl
theorem atoiV_bounds (s : ByteArray) : -9223372036854775808 ≤ atoiV s ∧ atoiV s ≤ 9223372036854775807 := by
  unfold atoiV
  rcases h : Lib.atoiAll s.data.toList with v | _ | _
  · exact Lib.atoiAll_bounds h
  · exact ⟨(by decide : (-9223372036854775808 : Int) ≤ 0), (by decide : (0 : Int) ≤ 9223372036854775807)⟩
  · exact Lib.atoiSat_bounds _
theorem evStart_fld (k : Nat) (hk : k < 11) (p : Nat) : 0 ≤ (evStart (ix .z manners k)).fld p ∧ (evStart (ix .z manners k)).fld p ≤ 7 := by
  by_cases hp : p < 11
  · have h : ∀ k < 11, ∀ p < 11, 0 ≤ (evStart (ix .z manners k)).fld p ∧ (evStart (ix .z manners k)).fld p ≤ 7 := by decide
    exact h k hk p hp
  · obtain ⟨q, rfl⟩ : ∃ q, p = q + 11 := ⟨p - 11, by omega⟩
    exact ⟨Int.le_refl _, (by decide : (0 : Int) ≤ 7)⟩
theorem evLaid_bounds (k : Nat) (hk : k < 11) (f : Nat → Int) (hf : ∀ j, -9223372036854775808 ≤ f j ∧ f j ≤ 9223372036854775807) : ∀ o, -9223372036854775808 ≤ (evLaid (ix .z manners k) f (ix .z manners k).offs.length).fld o ∧ (evLaid (ix .z manners k) f (ix .z manners k).offs.length).fld o ≤ 9223372036854775807 := by
  have h : ∀ n o, -9223372036854775808 ≤ (evLaid (ix .z manners k) f n).fld o ∧ (evLaid (ix .z manners k) f n).fld o ≤ 9223372036854775807 := by
    intro n
    induction n with
    | zero => intro o; have := evStart_fld k hk o; exact ⟨by show _ ≤ (evStart _).fld o; omega, by show (evStart _).fld o ≤ _; omega⟩
    | succ n ih =>
      intro o
      show _ ≤ ((evLaid (ix .z manners k) f n).put _ (f n)).fld o ∧ ((evLaid (ix .z manners k) f n).put _ (f n)).fld o ≤ _
      rcases Ev.put_fld (evLaid (ix .z manners k) f n) (ix 0 (ix .z manners k).offs n) (f n) o with e | e
      · rw [e]; exact ih o
      · rw [e]; exact hf n
  exact h _
noncomputable def evRes (e : Ev) (s : ByteArray) : Value := if dskText e = s then .tuple #[.agg #[.int .i64 e.kind, .int .i64 e.op.kind, .int .i64 e.op.who, .int .i64 e.op.in_, .int .i64 e.op.code, .int .i64 e.op.sec, .int .i64 e.op.fam, .int .i64 e.op.gen, .int .i64 e.at_, .int .i64 e.place, .int .i64 e.keep], .bool true] else .tuple #[.agg #[.int .i64 0, .int .i64 0, .int .i64 0, .int .i64 0, .int .i64 0, .int .i64 0, .int .i64 0, .int .i64 0, .int .i64 0, .int .i64 0, .int .i64 0], .bool false]
theorem evRes_hit {e : Ev} {s : ByteArray} (h : dskText e = s) : evRes e s = .tuple #[.agg #[.int .i64 e.kind, .int .i64 e.op.kind, .int .i64 e.op.who, .int .i64 e.op.in_, .int .i64 e.op.code, .int .i64 e.op.sec, .int .i64 e.op.fam, .int .i64 e.op.gen, .int .i64 e.at_, .int .i64 e.place, .int .i64 e.keep], .bool true] := if_pos h
theorem evRes_miss {e : Ev} {s : ByteArray} (h : ¬ dskText e = s) : evRes e s = .tuple #[.agg #[.int .i64 0, .int .i64 0, .int .i64 0, .int .i64 0, .int .i64 0, .int .i64 0, .int .i64 0, .int .i64 0, .int .i64 0, .int .i64 0, .int .i64 0], .bool false] := if_neg h
noncomputable def lineRes (s : ByteArray) (k : Nat) : Value := evRes (evLaid (ix .z manners k) (fun j => atoiV (ix ⟨#[]⟩ (words s) (j + 1))) (ix .z manners k).offs.length) s
theorem blk_fld {e : Ev} {W : World} {B t : Nat} (h : W.heap[B]? = some (.cells e.cells t (0, 0))) (o : Nat) (ho : o < 11) : W.cell? ⟨B, o, none⟩ = some (.int .i64 (e.fld o)) := by
  rw [blk_cell h o]
  match o, ho with
  | 0, _ => rfl
  | 1, _ => rfl
  | 2, _ => rfl
  | 3, _ => rfl
  | 4, _ => rfl
  | 5, _ => rfl
  | 6, _ => rfl
  | 7, _ => rfl
  | 8, _ => rfl
  | 9, _ => rfl
  | 10, _ => rfl
theorem man_foot {B t base n c : Nat} {w : World} {ok : Nat → Prop} {ad : Addr} (hR : (kMan B).R t w base ok (.slice (some ad) n c) manners) (hok : ∀ j, ok j → j ≠ B) (k : Nat) (hk : k < 11) :
    ∃ A1 c1, w.cell? ⟨(ad.add (k * 4)).block, (ad.add (k * 4)).off + 3, none⟩ = some (.slice A1 (ix .z manners k).offs.length c1) ∧ ∀ W', KeepBut w W' B none → (kPtr B).C W' A1 (ix .z manners k).offs.length (ix .z manners k).offs := by
  have hne : ad.block ≠ B := hok _ (hR.1 ad.block (by simp [Value.ownBlock]))
  obtain ⟨ad', A1, c1, hA, _, _, _, q4, _, _⟩ := at_man (Kd.R_reads' hR).2.2 k (by rw [manners_len]; exact hk)
  obtain rfl := Option.some.inj hA
  refine ⟨A1, c1, q4, fun W' hK => ?_⟩
  obtain ⟨ad', A2, c2, hA2, _, _, _, q4', _, hP⟩ := at_man (Kd.R_reads' (Kd.R_keep hR hK hok)).2.2 k (by rw [manners_len]; exact hk)
  obtain rfl := Option.some.inj hA2
  have := keep_cell hK q4 (show (ad.add (k * 4)).block ≠ B by rw [show (ad.add (k * 4)).block = ad.block by unfold Addr.add; split <;> rfl]; exact hne)
  rw [this] at q4'
  have h2 := Option.some.inj q4'
  injection h2 with h3
  rw [h3]
  exact hP

set_option maxHeartbeats 8000000 in
theorem iEv_long (s : ByteArray) (hs : s.size ≤ 4294967280) (hl : 30 < s.size) (i : Int) (hi : idxOf (wordB (words s)) manners = i) (w : World) (he : Env w) :
    Calls Tryd.prog 9 #[.string s] w fun e' w' => e' = .returned (.tuple #[.agg #[.int .i64 0, .int .i64 0, .int .i64 0, .int .i64 0, .int .i64 0, .int .i64 0, .int .i64 0, .int .i64 0, .int .i64 0, .int .i64 0, .int .i64 0], .bool false]) ∧ Below w.heap.size w w' := by
  have hwd := words_bounds s
  have HW : Hid ((∀ k, (ix ⟨#[]⟩ (words s) k).size ≤ 4294967280) ∧ (words s).length ≤ 4294967296 ∧ 1 ≤ (words s).length) := Lib.hid ⟨fun k => Nat.le_trans (hwd.1 k) (by omega), by have := hwd.2.1; omega, hwd.2.2⟩
  have hw0 : (0 : Int) < ((words s).length : Int) := by have := hwd.2.2; omega
  have hwl : (words s).length ≤ 4294967296 := HW.out.2.1
  have hlen := manners_len
  clear hwd
  have HB := Lib.hid (Below.refl w.heap.size w)
  have HE := Lib.hid he
  have HI := Lib.hid hi
  clear he hi
  have hb0 : decide ((30 : Int) < (s.size : Int)) = true := decide_eq_true (by omega)
  go_enter Tryd.func9, Tryd.ntmps9
  go_wp2_with (first | ((with_reducible refine gate_dst (N := 2) rfl ?_); refine box_event ?hg (N := 2) ?hd (cs := #[.int .i64 0, .int .i64 0, .int .i64 0, .int .i64 0, .int .i64 0, .int .i64 0, .int .i64 0, .int .i64 0, .int .i64 0, .int .i64 0, .int .i64 0]) (t := 29) ?hr ?_; (case hd => rfl); (case hg => rfl); (case hr => first | (go_simp; done) | (go_simp; rfl)); intro B2 hg wq hbox hb; have HG2 := Lib.hid (Nat.le_of_eq hg.symm : w.heap.size ≤ B2); have HX2 := Lib.hid hbox; have HBn := Lib.hid (below_step HB.out hb); clear HB hbox hb hg; have HB := HBn; clear HBn) | (go_at_call 25; refine (split_any s (by omega) _ (HE.out.below HB.out)).mono ?_; rintro e' w4 ⟨A, c, rfl, hc, hC, hb⟩; have HX2n := Lib.hid (blk_below HX2.out hb); have HBn := Lib.hid (below_step HB.out hb); clear hb HX2 HB; have HX2 := HX2n; have HB := HBn; clear HX2n HBn; have HC := Lib.hid hC; clear hC hc) | ((with_reducible refine gate_dst (N := 4) rfl ?_); refine box_event ?hg (N := 4) ?hd (cs := #[.slice none 0 0]) (t := 42) ?hr ?_; (case hd => rfl); (case hg => rfl); (case hr => first | (go_simp; done) | (go_simp; rfl)); intro B4 hg wq hbox hb; have HG4 := Lib.hid (by rw [hg]; exact HB.out.size : w.heap.size ≤ B4); have HN24 := Lib.hid (by rw [hg]; exact Nat.ne_of_lt (blk_lt HX2.out) : B2 ≠ B4); have HF4 := Lib.hid (Kd.far_C (⟨#[]⟩ : ByteArray) HC.out (Nat.le_of_eq hg.symm)); have HX4 := Lib.hid hbox; clear hbox hg; have HX2n := Lib.hid (blk_below HX2.out hb); have HCn := Lib.hid (Kd.C_below HC.out hb); have HBn := Lib.hid (below_step HB.out hb); clear hb HX2 HC HB; have HX2 := HX2n; have HC := HCn; have HB := HBn; clear HX2n HCn HBn; have c4 := (blk_cell HX4.out 0).trans (rfl : _ = some (Value.slice none 0 0)); have f4 := blk_frozen HX4.out 0) | ((with_reducible refine gate_dst (N := 5) rfl ?_); refine box_event ?hg (N := 5) ?hd (cs := #[.int .i64 0, .int .i64 0, .int .i64 0, .int .i64 0, .int .i64 0, .int .i64 0, .int .i64 0, .int .i64 0, .int .i64 0, .int .i64 0, .int .i64 0]) (t := 29) ?hr ?_; (case hd => rfl); (case hg => rfl); (case hr => first | (go_simp; done) | (go_simp; rfl)); intro B5 hg wq hbox hb; have hbs := below_set (j := 0) (v := (.slice A (words s).length c)) HB.out HG4.out; have HG5 := Lib.hid (by rw [hg]; exact hbs.size : w.heap.size ≤ B5); have hx2 := blk_far HX2.out (p := ⟨B4, 0, none⟩) HN24.out (.slice A (words s).length c); have hx4 := blk_put HX4.out 0 (.slice A (words s).length c) rfl; have hc4 := Kd.C_keep (⟨#[]⟩ : ByteArray) HC.out ((KeepBut.refl _ B4 none).set_ 0 (.slice A (words s).length c)) HF4.out; have HN25 := Lib.hid (by rw [hg]; exact Nat.ne_of_lt (blk_lt hx2) : B2 ≠ B5); have HN45 := Lib.hid (by rw [hg]; exact Nat.ne_of_lt (blk_lt hx4) : B4 ≠ B5); have HF5 := Lib.hid (Kd.far_C (⟨#[]⟩ : ByteArray) hc4 (Nat.le_of_eq hg.symm)); have HCn := Lib.hid (Kd.C_below hc4 hb); have HX5 := Lib.hid hbox; have HX2n := Lib.hid (blk_below hx2 hb); have HX4n := Lib.hid (blk_below hx4 hb); have HBn := Lib.hid (below_step hbs hb); clear HX2 HX4 HB HC hbox hb hg hbs hx2 hx4 hc4 c4 f4; have HX2 := HX2n; have HX4 := HX4n; have HB := HBn; have HC := HCn; clear HX2n HX4n HBn HCn) | (go_at_call 18; refine (manners_any B5 _).mono ?_; rintro e' w5 ⟨v, rfl, hR, hb⟩; obtain ⟨Am, cm, rfl, hcm, hCm⟩ := Kd.R_reads hR; have HR := Lib.hid (Kd.R_newB hR HX5.out); clear hR hcm hCm; have HX2n := Lib.hid (blk_below HX2.out hb); have HX4n := Lib.hid (blk_below HX4.out hb); have HX5n := Lib.hid (blk_below HX5.out hb); have HCn := Lib.hid (Kd.C_below HC.out hb); have HBn := Lib.hid (below_step HB.out hb); clear hb HX2 HX4 HX5 HC HB; have HX2 := HX2n; have HX4 := HX4n; have HX5 := HX5n; have HC := HCn; have HB := HBn; clear HX2n HX4n HX5n HCn HBn) | (go_at_call 19; refine (idxFunc_any B5 26 _ (wordB (words s)) manners _ _ _ (Kd.R_reads' HR.out).2.2 eg26 (fun W m A1 n1 c1 hbW => (event1_any B4 m A1 n1 c1 (words s) A c W ((blk_cell (blk_below HX4.out hbW) 0).trans rfl) (Kd.C_below HC.out hbW) HW.out.2.2).mono fun _ _ ⟨he_, hz_⟩ => ⟨he_, below_step hbW hz_⟩)).mono ?_; rintro e' w6 ⟨rfl, hb⟩; rw [HI.out]; have HX2n := Lib.hid (blk_below HX2.out hb); have HX4n := Lib.hid (blk_below HX4.out hb); have HX5n := Lib.hid (blk_below HX5.out hb); have HCn := Lib.hid (Kd.C_below HC.out hb); have HBn := Lib.hid (below_step HB.out hb); have HRn := Lib.hid (Kd.R_below HR.out hb); clear hb HX2 HX4 HX5 HC HB HR; have HX2 := HX2n; have HX4 := HX4n; have HX5 := HX5n; have HC := HCn; have HB := HBn; have HR := HRn; clear HX2n HX4n HX5n HCn HBn HRn; have d0 := (blk_cell HX2.out 0).trans (rfl : _ = some (Value.int .i64 0)); have g0 := blk_frozen HX2.out 0; have d1 := (blk_cell HX2.out 1).trans (rfl : _ = some (Value.int .i64 0)); have g1 := blk_frozen HX2.out 1; have d2 := (blk_cell HX2.out 2).trans (rfl : _ = some (Value.int .i64 0)); have g2 := blk_frozen HX2.out 2; have d3 := (blk_cell HX2.out 3).trans (rfl : _ = some (Value.int .i64 0)); have g3 := blk_frozen HX2.out 3; have d4 := (blk_cell HX2.out 4).trans (rfl : _ = some (Value.int .i64 0)); have g4 := blk_frozen HX2.out 4; have d5 := (blk_cell HX2.out 5).trans (rfl : _ = some (Value.int .i64 0)); have g5 := blk_frozen HX2.out 5; have d6 := (blk_cell HX2.out 6).trans (rfl : _ = some (Value.int .i64 0)); have g6 := blk_frozen HX2.out 6; have d7 := (blk_cell HX2.out 7).trans (rfl : _ = some (Value.int .i64 0)); have g7 := blk_frozen HX2.out 7; have d8 := (blk_cell HX2.out 8).trans (rfl : _ = some (Value.int .i64 0)); have g8 := blk_frozen HX2.out 8; have d9 := (blk_cell HX2.out 9).trans (rfl : _ = some (Value.int .i64 0)); have g9 := blk_frozen HX2.out 9; have d10 := (blk_cell HX2.out 10).trans (rfl : _ = some (Value.int .i64 0)); have g10 := blk_frozen HX2.out 10))
  go_quiet (fail)
  go_wp2
  exact bodyPost_ret (results_ct rfl _ _ B2 29 #[.int .i64 0, .int .i64 0, .int .i64 0, .int .i64 0, .int .i64 0, .int .i64 0, .int .i64 0, .int .i64 0, .int .i64 0, .int .i64 0, .int .i64 0] (0, 0) _ rfl (put11_blk (by exact HX2.out)) Tryd.underlying29 rfl (by kernel_rfl)) rfl ⟨rfl, put11_below (pw_below_drewN HB.out _) HG2.out⟩

set_option maxHeartbeats 8000000 in
theorem iEv_word (s : ByteArray) (hl : s.size ≤ 30) (hi : idxOf (wordB (words s)) manners = -1) (w : World) (he : Env w) :
    Calls Tryd.prog 9 #[.string s] w fun e' w' => e' = .returned (.tuple #[.agg #[.int .i64 0, .int .i64 0, .int .i64 0, .int .i64 0, .int .i64 0, .int .i64 0, .int .i64 0, .int .i64 0, .int .i64 0, .int .i64 0, .int .i64 0], .bool false]) ∧ Below w.heap.size w w' := by
  have hwd := words_bounds s
  have HW : Hid ((∀ k, (ix ⟨#[]⟩ (words s) k).size ≤ 4294967280) ∧ (words s).length ≤ 4294967296 ∧ 1 ≤ (words s).length) := Lib.hid ⟨fun k => Nat.le_trans (hwd.1 k) (by omega), by have := hwd.2.1; omega, hwd.2.2⟩
  have hw0 : (0 : Int) < ((words s).length : Int) := by have := hwd.2.2; omega
  have hwl : (words s).length ≤ 4294967296 := HW.out.2.1
  have hlen := manners_len
  clear hwd
  have HB := Lib.hid (Below.refl w.heap.size w)
  have HE := Lib.hid he
  have HI := Lib.hid hi
  clear he hi
  have hb0 : decide ((30 : Int) < (s.size : Int)) = false := decide_eq_false (by omega)
  go_enter Tryd.func9, Tryd.ntmps9
  go_wp2_with (first | ((with_reducible refine gate_dst (N := 2) rfl ?_); refine box_event ?hg (N := 2) ?hd (cs := #[.int .i64 0, .int .i64 0, .int .i64 0, .int .i64 0, .int .i64 0, .int .i64 0, .int .i64 0, .int .i64 0, .int .i64 0, .int .i64 0, .int .i64 0]) (t := 29) ?hr ?_; (case hd => rfl); (case hg => rfl); (case hr => first | (go_simp; done) | (go_simp; rfl)); intro B2 hg wq hbox hb; have HG2 := Lib.hid (Nat.le_of_eq hg.symm : w.heap.size ≤ B2); have HX2 := Lib.hid hbox; have HBn := Lib.hid (below_step HB.out hb); clear HB hbox hb hg; have HB := HBn; clear HBn) | (go_at_call 25; refine (split_any s (by omega) _ (HE.out.below HB.out)).mono ?_; rintro e' w4 ⟨A, c, rfl, hc, hC, hb⟩; have HX2n := Lib.hid (blk_below HX2.out hb); have HBn := Lib.hid (below_step HB.out hb); clear hb HX2 HB; have HX2 := HX2n; have HB := HBn; clear HX2n HBn; have HC := Lib.hid hC; clear hC hc) | ((with_reducible refine gate_dst (N := 4) rfl ?_); refine box_event ?hg (N := 4) ?hd (cs := #[.slice none 0 0]) (t := 42) ?hr ?_; (case hd => rfl); (case hg => rfl); (case hr => first | (go_simp; done) | (go_simp; rfl)); intro B4 hg wq hbox hb; have HG4 := Lib.hid (by rw [hg]; exact HB.out.size : w.heap.size ≤ B4); have HN24 := Lib.hid (by rw [hg]; exact Nat.ne_of_lt (blk_lt HX2.out) : B2 ≠ B4); have HF4 := Lib.hid (Kd.far_C (⟨#[]⟩ : ByteArray) HC.out (Nat.le_of_eq hg.symm)); have HX4 := Lib.hid hbox; clear hbox hg; have HX2n := Lib.hid (blk_below HX2.out hb); have HCn := Lib.hid (Kd.C_below HC.out hb); have HBn := Lib.hid (below_step HB.out hb); clear hb HX2 HC HB; have HX2 := HX2n; have HC := HCn; have HB := HBn; clear HX2n HCn HBn; have c4 := (blk_cell HX4.out 0).trans (rfl : _ = some (Value.slice none 0 0)); have f4 := blk_frozen HX4.out 0) | ((with_reducible refine gate_dst (N := 5) rfl ?_); refine box_event ?hg (N := 5) ?hd (cs := #[.int .i64 0, .int .i64 0, .int .i64 0, .int .i64 0, .int .i64 0, .int .i64 0, .int .i64 0, .int .i64 0, .int .i64 0, .int .i64 0, .int .i64 0]) (t := 29) ?hr ?_; (case hd => rfl); (case hg => rfl); (case hr => first | (go_simp; done) | (go_simp; rfl)); intro B5 hg wq hbox hb; have hbs := below_set (j := 0) (v := (.slice A (words s).length c)) HB.out HG4.out; have HG5 := Lib.hid (by rw [hg]; exact hbs.size : w.heap.size ≤ B5); have hx2 := blk_far HX2.out (p := ⟨B4, 0, none⟩) HN24.out (.slice A (words s).length c); have hx4 := blk_put HX4.out 0 (.slice A (words s).length c) rfl; have hc4 := Kd.C_keep (⟨#[]⟩ : ByteArray) HC.out ((KeepBut.refl _ B4 none).set_ 0 (.slice A (words s).length c)) HF4.out; have HN25 := Lib.hid (by rw [hg]; exact Nat.ne_of_lt (blk_lt hx2) : B2 ≠ B5); have HN45 := Lib.hid (by rw [hg]; exact Nat.ne_of_lt (blk_lt hx4) : B4 ≠ B5); have HF5 := Lib.hid (Kd.far_C (⟨#[]⟩ : ByteArray) hc4 (Nat.le_of_eq hg.symm)); have HCn := Lib.hid (Kd.C_below hc4 hb); have HX5 := Lib.hid hbox; have HX2n := Lib.hid (blk_below hx2 hb); have HX4n := Lib.hid (blk_below hx4 hb); have HBn := Lib.hid (below_step hbs hb); clear HX2 HX4 HB HC hbox hb hg hbs hx2 hx4 hc4 c4 f4; have HX2 := HX2n; have HX4 := HX4n; have HB := HBn; have HC := HCn; clear HX2n HX4n HBn HCn) | (go_at_call 18; refine (manners_any B5 _).mono ?_; rintro e' w5 ⟨v, rfl, hR, hb⟩; obtain ⟨Am, cm, rfl, hcm, hCm⟩ := Kd.R_reads hR; have HR := Lib.hid (Kd.R_newB hR HX5.out); clear hR hcm hCm; have HX2n := Lib.hid (blk_below HX2.out hb); have HX4n := Lib.hid (blk_below HX4.out hb); have HX5n := Lib.hid (blk_below HX5.out hb); have HCn := Lib.hid (Kd.C_below HC.out hb); have HBn := Lib.hid (below_step HB.out hb); clear hb HX2 HX4 HX5 HC HB; have HX2 := HX2n; have HX4 := HX4n; have HX5 := HX5n; have HC := HCn; have HB := HBn; clear HX2n HX4n HX5n HCn HBn) | (go_at_call 19; refine (idxFunc_any B5 26 _ (wordB (words s)) manners _ _ _ (Kd.R_reads' HR.out).2.2 eg26 (fun W m A1 n1 c1 hbW => (event1_any B4 m A1 n1 c1 (words s) A c W ((blk_cell (blk_below HX4.out hbW) 0).trans rfl) (Kd.C_below HC.out hbW) HW.out.2.2).mono fun _ _ ⟨he_, hz_⟩ => ⟨he_, below_step hbW hz_⟩)).mono ?_; rintro e' w6 ⟨rfl, hb⟩; rw [HI.out]; have HX2n := Lib.hid (blk_below HX2.out hb); have HX4n := Lib.hid (blk_below HX4.out hb); have HX5n := Lib.hid (blk_below HX5.out hb); have HCn := Lib.hid (Kd.C_below HC.out hb); have HBn := Lib.hid (below_step HB.out hb); have HRn := Lib.hid (Kd.R_below HR.out hb); clear hb HX2 HX4 HX5 HC HB HR; have HX2 := HX2n; have HX4 := HX4n; have HX5 := HX5n; have HC := HCn; have HB := HBn; have HR := HRn; clear HX2n HX4n HX5n HCn HBn HRn; have d0 := (blk_cell HX2.out 0).trans (rfl : _ = some (Value.int .i64 0)); have g0 := blk_frozen HX2.out 0; have d1 := (blk_cell HX2.out 1).trans (rfl : _ = some (Value.int .i64 0)); have g1 := blk_frozen HX2.out 1; have d2 := (blk_cell HX2.out 2).trans (rfl : _ = some (Value.int .i64 0)); have g2 := blk_frozen HX2.out 2; have d3 := (blk_cell HX2.out 3).trans (rfl : _ = some (Value.int .i64 0)); have g3 := blk_frozen HX2.out 3; have d4 := (blk_cell HX2.out 4).trans (rfl : _ = some (Value.int .i64 0)); have g4 := blk_frozen HX2.out 4; have d5 := (blk_cell HX2.out 5).trans (rfl : _ = some (Value.int .i64 0)); have g5 := blk_frozen HX2.out 5; have d6 := (blk_cell HX2.out 6).trans (rfl : _ = some (Value.int .i64 0)); have g6 := blk_frozen HX2.out 6; have d7 := (blk_cell HX2.out 7).trans (rfl : _ = some (Value.int .i64 0)); have g7 := blk_frozen HX2.out 7; have d8 := (blk_cell HX2.out 8).trans (rfl : _ = some (Value.int .i64 0)); have g8 := blk_frozen HX2.out 8; have d9 := (blk_cell HX2.out 9).trans (rfl : _ = some (Value.int .i64 0)); have g9 := blk_frozen HX2.out 9; have d10 := (blk_cell HX2.out 10).trans (rfl : _ = some (Value.int .i64 0)); have g10 := blk_frozen HX2.out 10))
  go_quiet (fail)
  go_wp2
  exact bodyPost_ret (results_ct rfl _ _ B2 29 #[.int .i64 0, .int .i64 0, .int .i64 0, .int .i64 0, .int .i64 0, .int .i64 0, .int .i64 0, .int .i64 0, .int .i64 0, .int .i64 0, .int .i64 0] (0, 0) _ rfl (put11_blk (by exact HX2.out)) Tryd.underlying29 rfl (by kernel_rfl)) rfl ⟨rfl, put11_below (pw_below_drewN HB.out _) HG2.out⟩

set_option maxHeartbeats 8000000 in
theorem iEv_many (s : ByteArray) (hl : s.size ≤ 30) (k : Nat) (hk11 : k < 11) (hi : idxOf (wordB (words s)) manners = k) (hn : (words s).length ≠ (ix .z manners k).offs.length + 1) (w : World) (he : Env w) :
    Calls Tryd.prog 9 #[.string s] w fun e' w' => e' = .returned (.tuple #[.agg #[.int .i64 0, .int .i64 0, .int .i64 0, .int .i64 0, .int .i64 0, .int .i64 0, .int .i64 0, .int .i64 0, .int .i64 0, .int .i64 0, .int .i64 0], .bool false]) ∧ Below w.heap.size w w' := by
  have hwd := words_bounds s
  have HW : Hid ((∀ k, (ix ⟨#[]⟩ (words s) k).size ≤ 4294967280) ∧ (words s).length ≤ 4294967296 ∧ 1 ≤ (words s).length) := Lib.hid ⟨fun k => Nat.le_trans (hwd.1 k) (by omega), by have := hwd.2.1; omega, hwd.2.2⟩
  have hw0 : (0 : Int) < ((words s).length : Int) := by have := hwd.2.2; omega
  have hwl : (words s).length ≤ 4294967296 := HW.out.2.1
  have hlen := manners_len
  clear hwd
  have HB := Lib.hid (Below.refl w.heap.size w)
  have HE := Lib.hid he
  have HI := Lib.hid hi
  clear he hi
  have ho4 := man_offs k hk11
  have hk0 : decide ((k : Int) < 0) = false := decide_eq_false (by omega)
  have hk1 : (k : Int) < 11 := by omega
  have hb0 : decide ((30 : Int) < (s.size : Int)) = false := decide_eq_false (by omega)
  have hn0 : (((words s).length : Int) == ((ix .z manners k).offs.length : Int) + 1) = false := by rw [beq_eq_false_iff_ne]; omega
  clear hn
  go_enter Tryd.func9, Tryd.ntmps9
  go_wp2_with (first | ((with_reducible refine gate_dst (N := 2) rfl ?_); refine box_event ?hg (N := 2) ?hd (cs := #[.int .i64 0, .int .i64 0, .int .i64 0, .int .i64 0, .int .i64 0, .int .i64 0, .int .i64 0, .int .i64 0, .int .i64 0, .int .i64 0, .int .i64 0]) (t := 29) ?hr ?_; (case hd => rfl); (case hg => rfl); (case hr => first | (go_simp; done) | (go_simp; rfl)); intro B2 hg wq hbox hb; have HG2 := Lib.hid (Nat.le_of_eq hg.symm : w.heap.size ≤ B2); have HX2 := Lib.hid hbox; have HBn := Lib.hid (below_step HB.out hb); clear HB hbox hb hg; have HB := HBn; clear HBn) | (go_at_call 25; refine (split_any s (by omega) _ (HE.out.below HB.out)).mono ?_; rintro e' w4 ⟨A, c, rfl, hc, hC, hb⟩; have HX2n := Lib.hid (blk_below HX2.out hb); have HBn := Lib.hid (below_step HB.out hb); clear hb HX2 HB; have HX2 := HX2n; have HB := HBn; clear HX2n HBn; have HC := Lib.hid hC; clear hC hc) | ((with_reducible refine gate_dst (N := 4) rfl ?_); refine box_event ?hg (N := 4) ?hd (cs := #[.slice none 0 0]) (t := 42) ?hr ?_; (case hd => rfl); (case hg => rfl); (case hr => first | (go_simp; done) | (go_simp; rfl)); intro B4 hg wq hbox hb; have HG4 := Lib.hid (by rw [hg]; exact HB.out.size : w.heap.size ≤ B4); have HN24 := Lib.hid (by rw [hg]; exact Nat.ne_of_lt (blk_lt HX2.out) : B2 ≠ B4); have HF4 := Lib.hid (Kd.far_C (⟨#[]⟩ : ByteArray) HC.out (Nat.le_of_eq hg.symm)); have HX4 := Lib.hid hbox; clear hbox hg; have HX2n := Lib.hid (blk_below HX2.out hb); have HCn := Lib.hid (Kd.C_below HC.out hb); have HBn := Lib.hid (below_step HB.out hb); clear hb HX2 HC HB; have HX2 := HX2n; have HC := HCn; have HB := HBn; clear HX2n HCn HBn; have c4 := (blk_cell HX4.out 0).trans (rfl : _ = some (Value.slice none 0 0)); have f4 := blk_frozen HX4.out 0) | ((with_reducible refine gate_dst (N := 5) rfl ?_); refine box_event ?hg (N := 5) ?hd (cs := #[.int .i64 0, .int .i64 0, .int .i64 0, .int .i64 0, .int .i64 0, .int .i64 0, .int .i64 0, .int .i64 0, .int .i64 0, .int .i64 0, .int .i64 0]) (t := 29) ?hr ?_; (case hd => rfl); (case hg => rfl); (case hr => first | (go_simp; done) | (go_simp; rfl)); intro B5 hg wq hbox hb; have hbs := below_set (j := 0) (v := (.slice A (words s).length c)) HB.out HG4.out; have HG5 := Lib.hid (by rw [hg]; exact hbs.size : w.heap.size ≤ B5); have hx2 := blk_far HX2.out (p := ⟨B4, 0, none⟩) HN24.out (.slice A (words s).length c); have hx4 := blk_put HX4.out 0 (.slice A (words s).length c) rfl; have hc4 := Kd.C_keep (⟨#[]⟩ : ByteArray) HC.out ((KeepBut.refl _ B4 none).set_ 0 (.slice A (words s).length c)) HF4.out; have HN25 := Lib.hid (by rw [hg]; exact Nat.ne_of_lt (blk_lt hx2) : B2 ≠ B5); have HN45 := Lib.hid (by rw [hg]; exact Nat.ne_of_lt (blk_lt hx4) : B4 ≠ B5); have HF5 := Lib.hid (Kd.far_C (⟨#[]⟩ : ByteArray) hc4 (Nat.le_of_eq hg.symm)); have HCn := Lib.hid (Kd.C_below hc4 hb); have HX5 := Lib.hid hbox; have HX2n := Lib.hid (blk_below hx2 hb); have HX4n := Lib.hid (blk_below hx4 hb); have HBn := Lib.hid (below_step hbs hb); clear HX2 HX4 HB HC hbox hb hg hbs hx2 hx4 hc4 c4 f4; have HX2 := HX2n; have HX4 := HX4n; have HB := HBn; have HC := HCn; clear HX2n HX4n HBn HCn) | (go_at_call 18; refine (manners_any B5 _).mono ?_; rintro e' w5 ⟨v, rfl, hR, hb⟩; obtain ⟨Am, cm, rfl, hcm, hCm⟩ := Kd.R_reads hR; have HR := Lib.hid (Kd.R_newB hR HX5.out); clear hR hcm hCm; have HX2n := Lib.hid (blk_below HX2.out hb); have HX4n := Lib.hid (blk_below HX4.out hb); have HX5n := Lib.hid (blk_below HX5.out hb); have HCn := Lib.hid (Kd.C_below HC.out hb); have HBn := Lib.hid (below_step HB.out hb); clear hb HX2 HX4 HX5 HC HB; have HX2 := HX2n; have HX4 := HX4n; have HX5 := HX5n; have HC := HCn; have HB := HBn; clear HX2n HX4n HX5n HCn HBn) | (go_at_call 19; refine (idxFunc_any B5 26 _ (wordB (words s)) manners _ _ _ (Kd.R_reads' HR.out).2.2 eg26 (fun W m A1 n1 c1 hbW => (event1_any B4 m A1 n1 c1 (words s) A c W ((blk_cell (blk_below HX4.out hbW) 0).trans rfl) (Kd.C_below HC.out hbW) HW.out.2.2).mono fun _ _ ⟨he_, hz_⟩ => ⟨he_, below_step hbW hz_⟩)).mono ?_; rintro e' w6 ⟨rfl, hb⟩; rw [HI.out]; have HX2n := Lib.hid (blk_below HX2.out hb); have HX4n := Lib.hid (blk_below HX4.out hb); have HX5n := Lib.hid (blk_below HX5.out hb); have HCn := Lib.hid (Kd.C_below HC.out hb); have HBn := Lib.hid (below_step HB.out hb); have HRn := Lib.hid (Kd.R_below HR.out hb); clear hb HX2 HX4 HX5 HC HB HR; have HX2 := HX2n; have HX4 := HX4n; have HX5 := HX5n; have HC := HCn; have HB := HBn; have HR := HRn; clear HX2n HX4n HX5n HCn HBn HRn; have d0 := (blk_cell HX2.out 0).trans (rfl : _ = some (Value.int .i64 0)); have g0 := blk_frozen HX2.out 0; have d1 := (blk_cell HX2.out 1).trans (rfl : _ = some (Value.int .i64 0)); have g1 := blk_frozen HX2.out 1; have d2 := (blk_cell HX2.out 2).trans (rfl : _ = some (Value.int .i64 0)); have g2 := blk_frozen HX2.out 2; have d3 := (blk_cell HX2.out 3).trans (rfl : _ = some (Value.int .i64 0)); have g3 := blk_frozen HX2.out 3; have d4 := (blk_cell HX2.out 4).trans (rfl : _ = some (Value.int .i64 0)); have g4 := blk_frozen HX2.out 4; have d5 := (blk_cell HX2.out 5).trans (rfl : _ = some (Value.int .i64 0)); have g5 := blk_frozen HX2.out 5; have d6 := (blk_cell HX2.out 6).trans (rfl : _ = some (Value.int .i64 0)); have g6 := blk_frozen HX2.out 6; have d7 := (blk_cell HX2.out 7).trans (rfl : _ = some (Value.int .i64 0)); have g7 := blk_frozen HX2.out 7; have d8 := (blk_cell HX2.out 8).trans (rfl : _ = some (Value.int .i64 0)); have g8 := blk_frozen HX2.out 8; have d9 := (blk_cell HX2.out 9).trans (rfl : _ = some (Value.int .i64 0)); have g9 := blk_frozen HX2.out 9; have d10 := (blk_cell HX2.out 10).trans (rfl : _ = some (Value.int .i64 0)); have g10 := blk_frozen HX2.out 10))
  obtain ⟨ad, A1, c1, hA, q1, q2, q3, q4, hl4, hP⟩ := at_man (Kd.R_reads' HR.out).2.2 k (by rw [manners_len]; exact hk11)
  subst hA
  have HP := Lib.hid hP
  clear hP
  have c4 := (blk_cell HX4.out 0).trans (rfl : _ = some (Value.slice A (words s).length c))
  go_quiet (fail)
  go_wp2
  exact bodyPost_ret (results_ct rfl _ _ B2 29 #[.int .i64 0, .int .i64 0, .int .i64 0, .int .i64 0, .int .i64 0, .int .i64 0, .int .i64 0, .int .i64 0, .int .i64 0, .int .i64 0, .int .i64 0] (0, 0) _ rfl (put11_blk (by exact HX2.out)) Tryd.underlying29 rfl (by kernel_rfl)) rfl ⟨rfl, put11_below (pw_below_drewN HB.out _) HG2.out⟩

set_option maxHeartbeats 8000000 in
theorem iEv_text (s : ByteArray) (hl : s.size ≤ 30) (k : Nat) (hk11 : k < 11) (hi : idxOf (wordB (words s)) manners = k) (hn : (words s).length = (ix .z manners k).offs.length + 1) (w : World) (he : Env w) :
    Calls Tryd.prog 9 #[.string s] w fun e' w' => e' = .returned (lineRes s k) ∧ Below w.heap.size w w' := by
  have hwd := words_bounds s
  have HW : Hid ((∀ k, (ix ⟨#[]⟩ (words s) k).size ≤ 4294967280) ∧ (words s).length ≤ 4294967296 ∧ 1 ≤ (words s).length) := Lib.hid ⟨fun k => Nat.le_trans (hwd.1 k) (by omega), by have := hwd.2.1; omega, hwd.2.2⟩
  have hw0 : (0 : Int) < ((words s).length : Int) := by have := hwd.2.2; omega
  have hwl : (words s).length ≤ 4294967296 := HW.out.2.1
  have hlen := manners_len
  clear hwd
  have HB := Lib.hid (Below.refl w.heap.size w)
  have HE := Lib.hid he
  have HI := Lib.hid hi
  clear he hi
  have ho4 := man_offs k hk11
  have hk0 : decide ((k : Int) < 0) = false := decide_eq_false (by omega)
  have hk1 : (k : Int) < 11 := by omega
  have hb0 : decide ((30 : Int) < (s.size : Int)) = false := decide_eq_false (by omega)
  have hn0 : (((words s).length : Int) == ((ix .z manners k).offs.length : Int) + 1) = true := by rw [beq_iff_eq]; omega
  have HN := Lib.hid hn
  clear hn
  go_enter Tryd.func9, Tryd.ntmps9
  go_wp2_with (first | ((with_reducible refine gate_dst (N := 2) rfl ?_); refine box_event ?hg (N := 2) ?hd (cs := #[.int .i64 0, .int .i64 0, .int .i64 0, .int .i64 0, .int .i64 0, .int .i64 0, .int .i64 0, .int .i64 0, .int .i64 0, .int .i64 0, .int .i64 0]) (t := 29) ?hr ?_; (case hd => rfl); (case hg => rfl); (case hr => first | (go_simp; done) | (go_simp; rfl)); intro B2 hg wq hbox hb; have HG2 := Lib.hid (Nat.le_of_eq hg.symm : w.heap.size ≤ B2); have HX2 := Lib.hid hbox; have HBn := Lib.hid (below_step HB.out hb); clear HB hbox hb hg; have HB := HBn; clear HBn) | (go_at_call 25; refine (split_any s (by omega) _ (HE.out.below HB.out)).mono ?_; rintro e' w4 ⟨A, c, rfl, hc, hC, hb⟩; have HX2n := Lib.hid (blk_below HX2.out hb); have HBn := Lib.hid (below_step HB.out hb); clear hb HX2 HB; have HX2 := HX2n; have HB := HBn; clear HX2n HBn; have HC := Lib.hid hC; clear hC hc) | ((with_reducible refine gate_dst (N := 4) rfl ?_); refine box_event ?hg (N := 4) ?hd (cs := #[.slice none 0 0]) (t := 42) ?hr ?_; (case hd => rfl); (case hg => rfl); (case hr => first | (go_simp; done) | (go_simp; rfl)); intro B4 hg wq hbox hb; have HG4 := Lib.hid (by rw [hg]; exact HB.out.size : w.heap.size ≤ B4); have HN24 := Lib.hid (by rw [hg]; exact Nat.ne_of_lt (blk_lt HX2.out) : B2 ≠ B4); have HF4 := Lib.hid (Kd.far_C (⟨#[]⟩ : ByteArray) HC.out (Nat.le_of_eq hg.symm)); have HX4 := Lib.hid hbox; clear hbox hg; have HX2n := Lib.hid (blk_below HX2.out hb); have HCn := Lib.hid (Kd.C_below HC.out hb); have HBn := Lib.hid (below_step HB.out hb); clear hb HX2 HC HB; have HX2 := HX2n; have HC := HCn; have HB := HBn; clear HX2n HCn HBn; have c4 := (blk_cell HX4.out 0).trans (rfl : _ = some (Value.slice none 0 0)); have f4 := blk_frozen HX4.out 0) | ((with_reducible refine gate_dst (N := 5) rfl ?_); refine box_event ?hg (N := 5) ?hd (cs := #[.int .i64 0, .int .i64 0, .int .i64 0, .int .i64 0, .int .i64 0, .int .i64 0, .int .i64 0, .int .i64 0, .int .i64 0, .int .i64 0, .int .i64 0]) (t := 29) ?hr ?_; (case hd => rfl); (case hg => rfl); (case hr => first | (go_simp; done) | (go_simp; rfl)); intro B5 hg wq hbox hb; have hbs := below_set (j := 0) (v := (.slice A (words s).length c)) HB.out HG4.out; have HG5 := Lib.hid (by rw [hg]; exact hbs.size : w.heap.size ≤ B5); have hx2 := blk_far HX2.out (p := ⟨B4, 0, none⟩) HN24.out (.slice A (words s).length c); have hx4 := blk_put HX4.out 0 (.slice A (words s).length c) rfl; have hc4 := Kd.C_keep (⟨#[]⟩ : ByteArray) HC.out ((KeepBut.refl _ B4 none).set_ 0 (.slice A (words s).length c)) HF4.out; have HN25 := Lib.hid (by rw [hg]; exact Nat.ne_of_lt (blk_lt hx2) : B2 ≠ B5); have HN45 := Lib.hid (by rw [hg]; exact Nat.ne_of_lt (blk_lt hx4) : B4 ≠ B5); have HF5 := Lib.hid (Kd.far_C (⟨#[]⟩ : ByteArray) hc4 (Nat.le_of_eq hg.symm)); have HCn := Lib.hid (Kd.C_below hc4 hb); have HX5 := Lib.hid hbox; have HX2n := Lib.hid (blk_below hx2 hb); have HX4n := Lib.hid (blk_below hx4 hb); have HBn := Lib.hid (below_step hbs hb); clear HX2 HX4 HB HC hbox hb hg hbs hx2 hx4 hc4 c4 f4; have HX2 := HX2n; have HX4 := HX4n; have HB := HBn; have HC := HCn; clear HX2n HX4n HBn HCn) | (go_at_call 18; refine (manners_any B5 _).mono ?_; rintro e' w5 ⟨v, rfl, hR, hb⟩; obtain ⟨Am, cm, rfl, hcm, hCm⟩ := Kd.R_reads hR; have HR := Lib.hid (Kd.R_newB hR HX5.out); clear hR hcm hCm; have HX2n := Lib.hid (blk_below HX2.out hb); have HX4n := Lib.hid (blk_below HX4.out hb); have HX5n := Lib.hid (blk_below HX5.out hb); have HCn := Lib.hid (Kd.C_below HC.out hb); have HBn := Lib.hid (below_step HB.out hb); clear hb HX2 HX4 HX5 HC HB; have HX2 := HX2n; have HX4 := HX4n; have HX5 := HX5n; have HC := HCn; have HB := HBn; clear HX2n HX4n HX5n HCn HBn) | (go_at_call 19; refine (idxFunc_any B5 26 _ (wordB (words s)) manners _ _ _ (Kd.R_reads' HR.out).2.2 eg26 (fun W m A1 n1 c1 hbW => (event1_any B4 m A1 n1 c1 (words s) A c W ((blk_cell (blk_below HX4.out hbW) 0).trans rfl) (Kd.C_below HC.out hbW) HW.out.2.2).mono fun _ _ ⟨he_, hz_⟩ => ⟨he_, below_step hbW hz_⟩)).mono ?_; rintro e' w6 ⟨rfl, hb⟩; rw [HI.out]; have HX2n := Lib.hid (blk_below HX2.out hb); have HX4n := Lib.hid (blk_below HX4.out hb); have HX5n := Lib.hid (blk_below HX5.out hb); have HCn := Lib.hid (Kd.C_below HC.out hb); have HBn := Lib.hid (below_step HB.out hb); have HRn := Lib.hid (Kd.R_below HR.out hb); clear hb HX2 HX4 HX5 HC HB HR; have HX2 := HX2n; have HX4 := HX4n; have HX5 := HX5n; have HC := HCn; have HB := HBn; have HR := HRn; clear HX2n HX4n HX5n HCn HBn HRn; have d0 := (blk_cell HX2.out 0).trans (rfl : _ = some (Value.int .i64 0)); have g0 := blk_frozen HX2.out 0; have d1 := (blk_cell HX2.out 1).trans (rfl : _ = some (Value.int .i64 0)); have g1 := blk_frozen HX2.out 1; have d2 := (blk_cell HX2.out 2).trans (rfl : _ = some (Value.int .i64 0)); have g2 := blk_frozen HX2.out 2; have d3 := (blk_cell HX2.out 3).trans (rfl : _ = some (Value.int .i64 0)); have g3 := blk_frozen HX2.out 3; have d4 := (blk_cell HX2.out 4).trans (rfl : _ = some (Value.int .i64 0)); have g4 := blk_frozen HX2.out 4; have d5 := (blk_cell HX2.out 5).trans (rfl : _ = some (Value.int .i64 0)); have g5 := blk_frozen HX2.out 5; have d6 := (blk_cell HX2.out 6).trans (rfl : _ = some (Value.int .i64 0)); have g6 := blk_frozen HX2.out 6; have d7 := (blk_cell HX2.out 7).trans (rfl : _ = some (Value.int .i64 0)); have g7 := blk_frozen HX2.out 7; have d8 := (blk_cell HX2.out 8).trans (rfl : _ = some (Value.int .i64 0)); have g8 := blk_frozen HX2.out 8; have d9 := (blk_cell HX2.out 9).trans (rfl : _ = some (Value.int .i64 0)); have g9 := blk_frozen HX2.out 9; have d10 := (blk_cell HX2.out 10).trans (rfl : _ = some (Value.int .i64 0)); have g10 := blk_frozen HX2.out 10))
  obtain ⟨ad, A1, c1, hA, q1, q2, q3, q4, hl4, hP⟩ := at_man (Kd.R_reads' HR.out).2.2 k (by rw [manners_len]; exact hk11)
  subst hA
  have HP := Lib.hid hP
  clear hP
  have c4 := (blk_cell HX4.out 0).trans (rfl : _ = some (Value.slice A (words s).length c))
  go_quiet (fail)
  have hnb1 : ¬ ad.block = B5 := fun e => (HR.out.1 ad.block (by simp [Value.ownBlock])).2 e
  have hnb2 : ¬ B5 = ad.block := fun e => hnb1 e.symm
  have z0 := (blk_cell HX5.out 0).trans (rfl : _ = some (Value.int .i64 0))
  have y0 := blk_frozen HX5.out 0
  have z1 := (blk_cell HX5.out 1).trans (rfl : _ = some (Value.int .i64 0))
  have y1 := blk_frozen HX5.out 1
  go_wp2
  go_region
  clear z0 y0 z1 y1 c4 q1 q2 q3 q4 HP d0 g0 d1 g1 d2 g2 d3 g3 d4 g4 d5 g5 d6 g6 d7 g7 d8 g8 d9 g9 d10 g10
  obtain ⟨w7, hw7⟩ : ∃ w7, w7 = ((w6.drewN (nq + 1)).setCell ⟨B5, 0, none⟩ (.int .i64 (ix .z manners k).kind)).setCell ⟨B5, 1, none⟩ (.int .i64 (ix .z manners k).op) := ⟨_, rfl⟩
  rw [← hw7]
  have hk7 : KeepBut w6 w7 B5 none := by rw [hw7]; exact ((KeepBut.of_below (pw_below_drewN (Below.refl _ _) _) B5 none).set_ 0 _).set_ 1 _
  have hb7 : Below w.heap.size w w7 := by rw [hw7]; exact below_set (below_set (pw_below_drewN HB.out _) HG5.out) HG5.out
  have hx7 : w7.heap[B5]? = some (.cells (evStart (ix .z manners k)).cells 29 (0, 0)) := by rw [hw7]; exact blk_put (blk_put (w := w6.drewN (nq + 1)) (by exact HX5.out) 0 _ rfl) 1 _ rfl
  have hfoot := man_foot (B := B5) (Kd.R_keep HR.out hk7 (fun j hj => hj.2)) (fun j hj => hj.2) k hk11
  have hc7 := Kd.C_keep (⟨#[]⟩ : ByteArray) HC.out hk7 HF5.out
  have hx2 := hk7.blk HX2.out HN25.out (by simp)
  have hx4 := hk7.blk HX4.out HN45.out (by simp)
  clear hw7 hk7 HB HR HC HX2 HX4 HX5 hl4
  obtain ⟨A1, c1, q4, hP⟩ := hfoot
  obtain ⟨aw, hAw, _⟩ := at_str hc7 0 HW.out.2.2
  subst hAw
  have HB := Lib.hid hb7; have HX7 := Lib.hid hx7; have HC := Lib.hid hc7; have HX2 := Lib.hid hx2; have HX4 := Lib.hid hx4; have HP := Lib.hid hP
  obtain ⟨f, hf⟩ : ∃ f : Nat → Int, ∀ j, f j = atoiV (ix ⟨#[]⟩ (words s) (j + 1)) := ⟨_, fun _ => rfl⟩
  have HFF := Lib.hid hf
  have hres : lineRes s k = evRes (evLaid (ix .z manners k) f (ix .z manners k).offs.length) s := by
    unfold lineRes
    rw [show (fun j => atoiV (ix ⟨#[]⟩ (words s) (j + 1))) = f from (funext hf).symm]
  have HRES := Lib.hid hres
  clear hf hb7 hx7 hc7 hx2 hx4 hP hres hn0 hb0
  simp only [‹(((words s).length : Int) != ((ix .z manners k).offs.length : Int) + 1) = false›]
  go_wp2
  go_loopw [8, 9, 55] (fun _ _ s55 wr => ∃ j : Nat, j ≤ (ix .z manners k).offs.length ∧ s55 = .int .i64 j ∧ Hid (KeepBut w7 wr B5 none) ∧ Hid (Below w.heap.size w wr) ∧ Hid (wr.heap[B5]? = some (.cells (evLaid (ix .z manners k) f j).cells 29 (0, 0)))) (fun _ _ s55 _ => (ix .z manners k).offs.length - (intOf s55).toNat)
  case atStart => exact ⟨0, Nat.zero_le _, rfl, Lib.hid (KeepBut.refl _ _ _), HB, HX7⟩
  case round =>
    obtain ⟨j, hj, rfl, HKr, HBr, HXr⟩ := hrel
    clear HB HX7 q4
    have cw := (blk_cell (HKr.out.blk HX4.out HN45.out (by simp)) 0).trans (rfl : _ = some (Value.slice (some aw) (words s).length c))
    by_cases hlt : j < (ix .z manners k).offs.length
    · obtain ⟨ad1, hA1, p1⟩ := at_ptr (HP.out _ HKr.out) j hlt
      subst hA1
      obtain ⟨aw2, hA2, p2⟩ := at_str (Kd.C_keep (⟨#[]⟩ : ByteArray) HC.out HKr.out HF5.out) (j + 1) (by rw [HN.out]; omega)
      obtain rfl := Option.some.inj hA2
      have ho11 := man_off k j hk11 hlt
      have HLt := Lib.hid hlt
      have HO11 := Lib.hid ho11
      have hj4 : j < 4 := by omega
      have hjn : ((j : Int) + 1) < ((words s).length : Int) := by rw [HN.out]; omega
      have HAT := Lib.hid (fun W hW => atoi_any (ix ⟨#[]⟩ (words s) (j + 1)) (HW.out.1 _) W hW)
      rw [← HFF.out j] at HAT
      rw [show aw.add (j + 1) = ⟨aw.block, aw.off + (j + 1), none⟩ by simp [Addr.add]] at p2
      have g4 : ((j : Int) + 1).toNat = j + 1 := by omega
      clear hA2 ho11
      go_wp2_with (go_at_call 27; refine (HAT.out _ (HE.out.below HBr.out)).mono ?_; rintro e' w8 ⟨er, rfl, hb⟩; have x5 := blk_below HXr.out hb; have s5 := blk_fld x5 (ix 0 (ix .z manners k).offs j) HO11.out; have fr := blk_frozen x5 (ix 0 (ix .z manners k).offs j); have HX8 := Lib.hid x5; have HB8 := Lib.hid hb; clear x5 hb)
      go_roundw
      case rel => exact ⟨j + 1, HLt.out, by go_num, Lib.hid ((HKr.out.trans (KeepBut.of_below HB8.out B5 none) (.inl rfl)).set_ _ _), Lib.hid (below_set (below_step HBr.out HB8.out) HG5.out), Lib.hid (blk_put HX8.out _ _ (Ev.put_cells _ _ HO11.out _))⟩
      case measure => have := HLt.out; simp [intOf]; omega
    · have hjl : j = (ix .z manners k).offs.length := by omega
      have hx5 := HXr.out
      rw [hjl] at hx5
      have hbd := evLaid_bounds k hk11 f (fun j => by rw [HFF.out j]; exact atoiV_bounds _)
      generalize evLaid (ix .z manners k) f (ix .z manners k).offs.length = e at hx5 hbd HRES
      have HDT : Hid (∀ W, Env W → Calls Tryd.prog 7 #[.agg #[.int .i64 e.kind, .int .i64 e.op.kind, .int .i64 e.op.who, .int .i64 e.op.in_, .int .i64 e.op.code, .int .i64 e.op.sec, .int .i64 e.op.fam, .int .i64 e.op.gen, .int .i64 e.at_, .int .i64 e.place, .int .i64 e.keep]] W fun e' w' => e' = .returned (.string (dskText e)) ∧ Below W.heap.size W w') := Lib.hid (fun W hW => iDskText_any e hbd W hW.tab)
      have HX5 := Lib.hid hx5
      have HX2r := Lib.hid (HKr.out.blk HX2.out HN25.out (by simp))
      have c0 := (blk_cell HX5.out 0).trans (rfl : _ = some (Value.int .i64 e.kind)); have c1 := (blk_cell HX5.out 1).trans (rfl : _ = some (Value.int .i64 e.op.kind)); have c2 := (blk_cell HX5.out 2).trans (rfl : _ = some (Value.int .i64 e.op.who)); have c3 := (blk_cell HX5.out 3).trans (rfl : _ = some (Value.int .i64 e.op.in_)); have c4 := (blk_cell HX5.out 4).trans (rfl : _ = some (Value.int .i64 e.op.code)); have c5 := (blk_cell HX5.out 5).trans (rfl : _ = some (Value.int .i64 e.op.sec)); have c6 := (blk_cell HX5.out 6).trans (rfl : _ = some (Value.int .i64 e.op.fam)); have c7 := (blk_cell HX5.out 7).trans (rfl : _ = some (Value.int .i64 e.op.gen)); have c8 := (blk_cell HX5.out 8).trans (rfl : _ = some (Value.int .i64 e.at_)); have c9 := (blk_cell HX5.out 9).trans (rfl : _ = some (Value.int .i64 e.place)); have c10 := (blk_cell HX5.out 10).trans (rfl : _ = some (Value.int .i64 e.keep))
      clear hx5 hbd
      by_cases ht : dskText e = s
      · have ht0 : ((dskText e).toList == s.toList) = true := by rw [ht]; exact beq_self_eq_true _
        have HRS : Hid (lineRes s k = _) := Lib.hid (HRES.out.trans (evRes_hit ht))
        clear ht HRES
        go_wp2_with (go_at_call 7; refine (HDT.out _ (HE.out.below HBr.out)).mono ?_; rintro e' w9 ⟨rfl, hb⟩; have HX9 := Lib.hid (blk_below HX2r.out hb); have HY9 := Lib.hid (blk_below HX5.out hb); have HB9 := Lib.hid (below_step HBr.out hb); clear hb c0 c1 c2 c3 c5 c6 c7 c8 c9 c10 c4; have d0 := (blk_cell HX9.out 0).trans (rfl : _ = some (Value.int .i64 0)); have g0 := blk_frozen HX9.out 0; have c0 := (blk_cell HY9.out 0).trans (rfl : _ = some (Value.int .i64 e.kind)); have d1 := (blk_cell HX9.out 1).trans (rfl : _ = some (Value.int .i64 0)); have g1 := blk_frozen HX9.out 1; have c1 := (blk_cell HY9.out 1).trans (rfl : _ = some (Value.int .i64 e.op.kind)); have d2 := (blk_cell HX9.out 2).trans (rfl : _ = some (Value.int .i64 0)); have g2 := blk_frozen HX9.out 2; have c2 := (blk_cell HY9.out 2).trans (rfl : _ = some (Value.int .i64 e.op.who)); have d3 := (blk_cell HX9.out 3).trans (rfl : _ = some (Value.int .i64 0)); have g3 := blk_frozen HX9.out 3; have c3 := (blk_cell HY9.out 3).trans (rfl : _ = some (Value.int .i64 e.op.in_)); have d4 := (blk_cell HX9.out 4).trans (rfl : _ = some (Value.int .i64 0)); have g4 := blk_frozen HX9.out 4; have c4 := (blk_cell HY9.out 4).trans (rfl : _ = some (Value.int .i64 e.op.code)); have d5 := (blk_cell HX9.out 5).trans (rfl : _ = some (Value.int .i64 0)); have g5 := blk_frozen HX9.out 5; have c5 := (blk_cell HY9.out 5).trans (rfl : _ = some (Value.int .i64 e.op.sec)); have d6 := (blk_cell HX9.out 6).trans (rfl : _ = some (Value.int .i64 0)); have g6 := blk_frozen HX9.out 6; have c6 := (blk_cell HY9.out 6).trans (rfl : _ = some (Value.int .i64 e.op.fam)); have d7 := (blk_cell HX9.out 7).trans (rfl : _ = some (Value.int .i64 0)); have g7 := blk_frozen HX9.out 7; have c7 := (blk_cell HY9.out 7).trans (rfl : _ = some (Value.int .i64 e.op.gen)); have d8 := (blk_cell HX9.out 8).trans (rfl : _ = some (Value.int .i64 0)); have g8 := blk_frozen HX9.out 8; have c8 := (blk_cell HY9.out 8).trans (rfl : _ = some (Value.int .i64 e.at_)); have d9 := (blk_cell HX9.out 9).trans (rfl : _ = some (Value.int .i64 0)); have g9 := blk_frozen HX9.out 9; have c9 := (blk_cell HY9.out 9).trans (rfl : _ = some (Value.int .i64 e.place)); have d10 := (blk_cell HX9.out 10).trans (rfl : _ = some (Value.int .i64 0)); have g10 := blk_frozen HX9.out 10; have c10 := (blk_cell HY9.out 10).trans (rfl : _ = some (Value.int .i64 e.keep)))
        exact bodyPost_ret (results_ct rfl _ _ B2 29 #[.int .i64 e.kind, .int .i64 e.op.kind, .int .i64 e.op.who, .int .i64 e.op.in_, .int .i64 e.op.code, .int .i64 e.op.sec, .int .i64 e.op.fam, .int .i64 e.op.gen, .int .i64 e.at_, .int .i64 e.place, .int .i64 e.keep] (0, 0) _ rfl (put11_blk HX9.out) Tryd.underlying29 rfl (by kernel_rfl)) rfl ⟨by rw [HRS.out]; rfl, put11_below HB9.out HG2.out⟩
      · have ht0 : ((dskText e).toList == s.toList) = false := by
          rw [beq_eq_false_iff_ne]
          exact fun h => ht (ba_toList h)
        have HRS : Hid (lineRes s k = _) := Lib.hid (HRES.out.trans (evRes_miss ht))
        clear ht HRES
        go_wp2_with (go_at_call 7; refine (HDT.out _ (HE.out.below HBr.out)).mono ?_; rintro e' w9 ⟨rfl, hb⟩; have HX9 := Lib.hid (blk_below HX2r.out hb); have HY9 := Lib.hid (blk_below HX5.out hb); have HB9 := Lib.hid (below_step HBr.out hb); clear hb c0 c1 c2 c3 c5 c6 c7 c8 c9 c10 c4; have d0 := (blk_cell HX9.out 0).trans (rfl : _ = some (Value.int .i64 0)); have g0 := blk_frozen HX9.out 0; have c0 := (blk_cell HY9.out 0).trans (rfl : _ = some (Value.int .i64 e.kind)); have d1 := (blk_cell HX9.out 1).trans (rfl : _ = some (Value.int .i64 0)); have g1 := blk_frozen HX9.out 1; have c1 := (blk_cell HY9.out 1).trans (rfl : _ = some (Value.int .i64 e.op.kind)); have d2 := (blk_cell HX9.out 2).trans (rfl : _ = some (Value.int .i64 0)); have g2 := blk_frozen HX9.out 2; have c2 := (blk_cell HY9.out 2).trans (rfl : _ = some (Value.int .i64 e.op.who)); have d3 := (blk_cell HX9.out 3).trans (rfl : _ = some (Value.int .i64 0)); have g3 := blk_frozen HX9.out 3; have c3 := (blk_cell HY9.out 3).trans (rfl : _ = some (Value.int .i64 e.op.in_)); have d4 := (blk_cell HX9.out 4).trans (rfl : _ = some (Value.int .i64 0)); have g4 := blk_frozen HX9.out 4; have c4 := (blk_cell HY9.out 4).trans (rfl : _ = some (Value.int .i64 e.op.code)); have d5 := (blk_cell HX9.out 5).trans (rfl : _ = some (Value.int .i64 0)); have g5 := blk_frozen HX9.out 5; have c5 := (blk_cell HY9.out 5).trans (rfl : _ = some (Value.int .i64 e.op.sec)); have d6 := (blk_cell HX9.out 6).trans (rfl : _ = some (Value.int .i64 0)); have g6 := blk_frozen HX9.out 6; have c6 := (blk_cell HY9.out 6).trans (rfl : _ = some (Value.int .i64 e.op.fam)); have d7 := (blk_cell HX9.out 7).trans (rfl : _ = some (Value.int .i64 0)); have g7 := blk_frozen HX9.out 7; have c7 := (blk_cell HY9.out 7).trans (rfl : _ = some (Value.int .i64 e.op.gen)); have d8 := (blk_cell HX9.out 8).trans (rfl : _ = some (Value.int .i64 0)); have g8 := blk_frozen HX9.out 8; have c8 := (blk_cell HY9.out 8).trans (rfl : _ = some (Value.int .i64 e.at_)); have d9 := (blk_cell HX9.out 9).trans (rfl : _ = some (Value.int .i64 0)); have g9 := blk_frozen HX9.out 9; have c9 := (blk_cell HY9.out 9).trans (rfl : _ = some (Value.int .i64 e.place)); have d10 := (blk_cell HX9.out 10).trans (rfl : _ = some (Value.int .i64 0)); have g10 := blk_frozen HX9.out 10; have c10 := (blk_cell HY9.out 10).trans (rfl : _ = some (Value.int .i64 e.keep)))
        exact bodyPost_ret (results_ct rfl _ _ B2 29 #[.int .i64 0, .int .i64 0, .int .i64 0, .int .i64 0, .int .i64 0, .int .i64 0, .int .i64 0, .int .i64 0, .int .i64 0, .int .i64 0, .int .i64 0] (0, 0) _ rfl (put11_blk HX9.out) Tryd.underlying29 rfl (by kernel_rfl)) rfl ⟨by rw [HRS.out]; rfl, put11_below HB9.out HG2.out⟩

end Go.Proofs.YtaeifbmdjjmgkaaDoor
