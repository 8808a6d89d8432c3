/- What strings.Split, strconv.Atoi and the program's closure do at a line. Conditions: none. -/
import Derived.Test.YtaeifbmdjjmgkaaDoorDskE
import Derived.Test.YtaeifbmdjjmgkaaDoorDskC
import Derived.Test.YtaeifbmdjjmgkaaDoorItoa
namespace Go.Proofs.YtaeifbmdjjmgkaaDoor
open Go.RowKit Go.Proofs.YtaeifbmdjjmgkaaDoorW.PrintWords
set_option linter.unusedVariables false
set_option linter.unusedSimpArgs false
set_option maxRecDepth 100000

/-- What Go's library has laid, as far as a line's reading needs it. -/
structure Env (w : World) : Prop where
  tab : Tab w
  syn : ∃ tp p, w.var? Tryd.prog "strconv.ErrSyntax" = some #[.iface tp p]
  ran : ∃ tp p, w.var? Tryd.prog "strconv.ErrRange" = some #[.iface tp p]
  len : ∃ m : Int, w.cell? ⟨3, 0, none⟩ = some (.int .i64 m)
theorem var_below {w w' : World} {name : String} {v : Array Value} (h : w.var? Tryd.prog name = some v) (hb : Below w.heap.size w w') : w'.var? Tryd.prog name = some v := by
  unfold World.var? at h ⊢
  cases hg : Tryd.prog.globalNamed name with
  | none => simp [hg] at h
  | some g =>
    simp only [hg, Option.bind_some] at h ⊢
    have hlt : g < w.heap.size := by
      rcases Nat.lt_or_ge g w.heap.size with h' | h'
      · exact h'
      · rw [Array.getElem?_eq_none h'] at h; cases h
    rw [hb.block g hlt]
    exact h
theorem Env.below {w w' : World} (h : Env w) (hb : Below w.heap.size w w') : Env w' :=
  ⟨tab_below h.tab hb, let ⟨tp, p, e⟩ := h.syn; ⟨tp, p, var_below e hb⟩, let ⟨tp, p, e⟩ := h.ran; ⟨tp, p, var_below e hb⟩, let ⟨m, e⟩ := h.len; ⟨m, pw_cell_below hb e⟩⟩

theorem split_any (s : ByteArray) (hs : s.size ≤ 4294967280) (w : World) (he : Env w) :
    Calls Tryd.prog 25 #[.string s, .string ⟨#[32]⟩] w fun e w' => ∃ A c, e = .returned (.slice A (words s).length c) ∧ (words s).length ≤ c ∧ Kd.string.C w' A (words s).length (words s) ∧ Below w.heap.size w w' := by
  obtain ⟨m, hm⟩ := he.len
  refine (Tryd.strings_Split s sp m w (by omega) hm (by decide)).mono ?_
  rintro e w' ⟨rfl, rfl⟩
  have hl : (words s).length = Lib.countB s sp + 1 := by
    rw [← split_words]
    exact Lib.splitB_all sp (by decide) 0 _ s rfl
  have hb := words_bounds s
  have h := World.ownsRow_lit (base := 0) (e := 9) (size := 1) w ((words s).map Value.string).toArray (words s).length (Nat.zero_le _) (by unfold maxLen; omega) (by simp)
  rw [List.toList_toArray] at h
  have hR : Kd.string.R 9 _ 0 (fun _ => True) _ (words s) := Kd.R_of_own (enc := Value.string) (h1 := fun _ => rfl) h (fun _ _ => trivial)
  obtain ⟨A, c, hv, hc, hC⟩ := Kd.R_reads hR
  rw [split_words, ← hl]
  exact ⟨A, c, by rw [← hv], hc, hC, below_alloc (Below.refl _ _) _⟩

/-- The number that strconv.Atoi hands back, its error aside. -/
def atoiV (s : ByteArray) : Int := match Lib.atoiAll s.data.toList with
  | .ok v => v
  | .range => Lib.atoiSat s.data.toList
  | _ => 0
theorem atoi_any (s : ByteArray) (hs : s.size ≤ 4294967280) (w : World) (he : Env w) :
    Calls Tryd.prog 27 #[.string s] w fun e w' => ∃ err, e = .returned (.tuple #[.int .i64 (atoiV s), err]) ∧ Below w.heap.size w w' := by
  unfold atoiV
  rcases h : Lib.atoiAll s.data.toList with v | _ | _
  · refine (Tryd.strconv_Atoi_ok s (by omega) v h w).mono ?_
    rintro e w' ⟨rfl, hw⟩
    refine ⟨_, rfl, ?_⟩
    rcases hw with rfl | ⟨t, rfl⟩
    · exact Below.refl _ _
    · exact bytes_below (Below.refl _ _) (Nat.le_refl _) _ _
  · obtain ⟨tp, p, hv⟩ := he.syn
    refine (Tryd.strconv_Atoi_syntax_var s (by omega) h tp p w hv).mono ?_
    rintro e w' ⟨N, rfl, _, _, hb⟩
    exact ⟨_, rfl, hb⟩
  · obtain ⟨tp, p, hv⟩ := he.ran
    refine (Tryd.strconv_Atoi_range_var s (by omega) h tp p w hv).mono ?_
    rintro e w' ⟨N, rfl, _, _, hb⟩
    exact ⟨_, rfl, hb⟩

def wordB (ws : List ByteArray) (m : Man) : Bool := m.word.toList == (ix ⟨#[]⟩ ws 0).toList
set_option maxHeartbeats 2000000 in
theorem event1_any (B : Nat) (m : Man) (A1 : Option Addr) (n1 c1 : Nat) (ws : List ByteArray) (A : Option Addr) (c : Nat) (w : World) (h4 : w.cell? ⟨B, 0, none⟩ = some (.slice A ws.length c)) (hC : Kd.string.C w A ws.length ws) (h1 : 1 ≤ ws.length) :
    Calls Tryd.prog 26 #[.agg #[.string m.word, .int .i64 m.kind, .int .i64 m.op, .slice A1 n1 c1], .pointer (some ⟨B, 0, none⟩)] w fun e' w' => e' = .returned (.bool (wordB ws m)) ∧ Below w.heap.size w w' := by
  have hb : Below w.heap.size w (w.alloc (.cells #[.string m.word, .int .i64 m.kind, .int .i64 m.op, .slice A1 n1 c1] 50)) := below_alloc (Below.refl _ _) _
  have g4 := pw_cell_below hb h4
  obtain ⟨ad, hA, q0⟩ := at_str (Kd.C_below hC hb) 0 h1
  subst hA
  have g5 : (w.alloc (.cells #[.string m.word, .int .i64 m.kind, .int .i64 m.op, .slice A1 n1 c1] 50)).cell? ad = some (.string (ix ⟨#[]⟩ ws 0)) := q0
  have hlen : (0 : Int) < (ws.length : Int) := by omega
  have HB := Lib.hid hb
  clear hb h4 hC q0 h1
  unfold wordB
  go_enter Tryd.func26, Tryd.ntmps26
  go_wp2_with fail
  go_quiet (fail)
  go_wp2
  go_ret
  exact ⟨rfl, by repeat (first | exact HB.out | apply below_alloc | apply pw_below_drewN | apply below_drew1)⟩
end Go.Proofs.YtaeifbmdjjmgkaaDoor
