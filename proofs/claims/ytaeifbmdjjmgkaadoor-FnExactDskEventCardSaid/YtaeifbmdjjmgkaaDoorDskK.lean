/- Both readings of a line are one. Conditions: none. -/
import Derived.Test.YtaeifbmdjjmgkaaDoorDskI
import Derived.Lib.AtoiTie
namespace Go.Proofs.YtaeifbmdjjmgkaaDoor
open Go.RowKit
set_option linter.unusedVariables false
set_option linter.unusedSimpArgs false
set_option maxRecDepth 100000

theorem decFrom_digs : ∀ (l : List UInt8) (acc : Nat), (∀ c ∈ l, isDig c) → Lib.decFrom acc l = some (l.foldl (fun n c => n * 10 + dval c) acc)
  | [], acc, _ => rfl
  | c :: r, acc, h => by
    have hc : Lib.digitVal c = some (dval c) := if_pos (h c List.mem_cons_self)
    have ih := decFrom_digs r (acc * 10 + dval c) (fun d hd => h d (List.mem_cons_of_mem _ hd))
    simp only [Lib.decFrom, hc, List.foldl_cons]
    exact ih
theorem atoiV_itoa (n : Int) (h0 : 0 ≤ n) (h1 : n ≤ 999) : atoiV (itoaB n) = n := by
  obtain ⟨m, rfl⟩ := Int.eq_ofNat_of_zero_le h0
  have hd := itoaB_digs m (by omega)
  unfold atoiV
  generalize (itoaB (m : Int)).data.toList = l at hd
  have ha : Lib.atoiAll l = .ok (m : Int) := by
    rw [Lib.atoiAll_short l (by omega)]
    cases l with
    | nil => simp at hd
    | cons c r =>
      have hc := hd.1 c List.mem_cons_self
      have h45 : ¬ c = 45 := by rintro rfl; revert hc; unfold isDig; decide
      have h43 : ¬ c = 43 := by rintro rfl; revert hc; unfold isDig; decide
      have hn : Lib.decNat (c :: r) = some m := by
        unfold Lib.decNat
        rw [if_neg (by simp), decFrom_digs _ _ hd.1]
        exact congrArg some hd.2.1
      simp [Lib.atoi, h45, h43, hn, Lib.NumEnd.ofOption]
  rw [ha]
theorem atoiV_num (s : ByteArray) (h : 0 ≤ numS s) : atoiV s = numS s := by
  rcases numS_of s with ⟨a, b, c⟩ | ⟨a, b⟩
  · have := atoiV_itoa _ a b
    rw [← c] at this
    exact this
  · omega
theorem Ev.put_kind (e : Ev) (o : Nat) (v : Int) (h : 2 ≤ o) : (e.put o v).kind = e.kind ∧ (e.put o v).op.kind = e.op.kind := by
  match o, h with
  | 2, _ => exact ⟨rfl, rfl⟩
  | 3, _ => exact ⟨rfl, rfl⟩
  | 4, _ => exact ⟨rfl, rfl⟩
  | 5, _ => exact ⟨rfl, rfl⟩
  | 6, _ => exact ⟨rfl, rfl⟩
  | 7, _ => exact ⟨rfl, rfl⟩
  | 8, _ => exact ⟨rfl, rfl⟩
  | 9, _ => exact ⟨rfl, rfl⟩
  | o + 10, _ => exact ⟨rfl, rfl⟩
theorem off_ge (k : Nat) (hk : k < 11) (j : Nat) (hj : j < (ix .z manners k).offs.length) : 2 ≤ ix 0 (ix .z manners k).offs j := by
  have h : ∀ k < 11, ∀ j < (ix .z manners k).offs.length, 2 ≤ ix 0 (ix .z manners k).offs j := by decide
  exact h k hk j hj
theorem evLaid_kind (k : Nat) (hk : k < 11) (f : Nat → Int) : ∀ n, n ≤ (ix .z manners k).offs.length → (evLaid (ix .z manners k) f n).kind = (ix .z manners k).kind ∧ (evLaid (ix .z manners k) f n).op.kind = (ix .z manners k).op
  | 0, _ => ⟨rfl, rfl⟩
  | n + 1, h => by
    have ih := evLaid_kind k hk f n (by omega)
    have hp := Ev.put_kind (evLaid (ix .z manners k) f n) (ix 0 (ix .z manners k).offs n) (f n) (off_ge k hk n (by omega))
    exact ⟨hp.1.trans ih.1, hp.2.trans ih.2⟩
theorem idx_kind (e : Ev) (k : Nat) (hk : k < 11) (h1 : e.kind = (ix .z manners k).kind) (h2 : e.op.kind = (ix .z manners k).op) : idxOf (matB e) manners = k := by
  have he : matB e = fun m => (m.kind == (ix .z manners k).kind && ((ix .z manners k).kind != 1 || m.op == (ix .z manners k).op)) := by
    funext m
    unfold matB
    rw [h1, h2]
  rw [he]
  have h : ∀ k < 11, idxOf (fun m => (m.kind == (ix .z manners k).kind && ((ix .z manners k).kind != 1 || m.op == (ix .z manners k).op))) manners = k := by decide
  exact h k hk
theorem idx_word (ws : List ByteArray) (k : Nat) (hk : k < 11) (h : (ix .z manners k).word = ix ⟨#[]⟩ ws 0) : idxOf (wordB ws) manners = k := by
  have he : wordB ws = fun m => (m.word.data.toList == (ix .z manners k).word.data.toList) := by
    funext m
    unfold wordB
    rw [← h, ByteArray.toList_eq, ByteArray.toList_eq]
  rw [he]
  have h : ∀ k < 11, idxOf (fun m => (m.word.data.toList == (ix .z manners k).word.data.toList)) manners = k := by decide
  exact h k hk
theorem word_idx (ws : List ByteArray) (k : Nat) (h : idxOf (wordB ws) manners = k) : k < 11 ∧ (ix .z manners k).word = ix ⟨#[]⟩ ws 0 := by
  unfold idxOf at h
  cases hf : manners.findIdx? (wordB ws) with
  | none => rw [hf] at h; simp at h
  | some j =>
    rw [hf] at h
    have h : (j : Int) = k := by simpa using h
    obtain rfl : j = k := by omega
    rw [List.findIdx?_eq_some_iff_getElem] at hf
    obtain ⟨hj, hw, _⟩ := hf
    refine ⟨hj, ?_⟩
    rw [ix_lt .z manners j hj]
    unfold wordB at hw
    exact ba_toList (by simpa using hw)
theorem man_nosp (k : Nat) (hk : k < 11) : NoSp (ix .z manners k).word := by
  have h : ∀ k < 11, ∀ c ∈ (ix .z manners k).word.data.toList, c ≠ 32 := by decide
  exact h k hk
theorem man_kind (k : Nat) (hk : k < 11) : (ix .z manners k).kind ≠ 0 := by
  have h : ∀ k < 11, (ix .z manners k).kind ≠ 0 := by decide
  exact h k hk
theorem man_word0 (k : Nat) (hk : k < 11) : (ix .z manners k).word.data.toList ≠ [] := by
  have h : ∀ k < 11, (ix .z manners k).word.data.toList ≠ [] := by decide
  exact h k hk
theorem off_kind (k : Nat) (hk : k < 11) : ∀ o ∈ (ix .z manners k).offs, ((ix .z manners k).kind = 1 → 2 ≤ o ∧ o ≤ 7) ∧ ((ix .z manners k).kind ≠ 1 → 8 ≤ o ∧ o ≤ 10) := by
  have h : ∀ k < 11, ∀ o ∈ (ix .z manners k).offs, ((ix .z manners k).kind = 1 → 2 ≤ o ∧ o ≤ 7) ∧ ((ix .z manners k).kind ≠ 1 → 8 ≤ o ∧ o ≤ 10) := by decide
  exact h k hk
theorem fld_range (e : Ev) (k : Nat) (hk : k < 11) (h1 : e.kind = (ix .z manners k).kind) (hok : evOkB e = true) : ∀ o ∈ (ix .z manners k).offs, 0 ≤ e.fld o ∧ e.fld o ≤ 999 := by
  intro o ho
  have hr := off_kind k hk o ho
  unfold evOkB at hok
  by_cases hk1 : e.kind = 1
  · rw [if_pos hk1] at hok
    have hq := dec_iff.1 hok
    unfold OpOk InB at hq
    obtain ⟨q2, q3, q4, q5, q6, q7, _⟩ := hq
    have hr := hr.1 (h1.symm.trans hk1)
    have : o = 2 ∨ o = 3 ∨ o = 4 ∨ o = 5 ∨ o = 6 ∨ o = 7 := by omega
    rcases this with rfl | rfl | rfl | rfl | rfl | rfl
    · show 0 ≤ e.op.who ∧ e.op.who ≤ 999; omega
    · show 0 ≤ e.op.in_ ∧ e.op.in_ ≤ 999; omega
    · show 0 ≤ e.op.code ∧ e.op.code ≤ 999; omega
    · show 0 ≤ e.op.sec ∧ e.op.sec ≤ 999; omega
    · show 0 ≤ e.op.fam ∧ e.op.fam ≤ 999; omega
    · show 0 ≤ e.op.gen ∧ e.op.gen ≤ 999; omega
  · rw [if_neg hk1] at hok
    have hq := dec_iff.1 hok
    unfold InB at hq
    obtain ⟨q8, q10, q9⟩ := hq
    have hr := hr.2 (fun h => hk1 (h1.trans h))
    have : o = 8 ∨ o = 9 ∨ o = 10 := by omega
    rcases this with rfl | rfl | rfl
    · show 0 ≤ e.at_ ∧ e.at_ ≤ 999; omega
    · show 0 ≤ e.place ∧ e.place ≤ 999; omega
    · show 0 ≤ e.keep ∧ e.keep ≤ 999; omega
theorem laid_fill (k : Nat) (hk : k < 11) (f : Nat → Int) (a : List Int) (h : ∀ j, j < (ix .z manners k).offs.length → f j = ix 0 a j) : evLaid (ix .z manners k) f (ix .z manners k).offs.length = fillM (ix .z manners k) a := by
  match k, hk, h with
  | 0, _, h =>
    have h0 := h 0 (by decide)
    have h1 := h 1 (by decide)
    show (⟨1, ⟨1, f 0, f 1, 0, 0, 0, 0⟩, 0, 0, 0⟩ : Ev) = (⟨1, ⟨1, ix 0 a 0, ix 0 a 1, 0, 0, 0, 0⟩, 0, 0, 0⟩ : Ev)
    rw [h0, h1]
  | 1, _, h =>
    have h0 := h 0 (by decide)
    have h1 := h 1 (by decide)
    have h2 := h 2 (by decide)
    have h3 := h 3 (by decide)
    show (⟨1, ⟨2, f 0, f 1, f 2, f 3, 0, 0⟩, 0, 0, 0⟩ : Ev) = (⟨1, ⟨2, ix 0 a 0, ix 0 a 1, ix 0 a 2, ix 0 a 3, 0, 0⟩, 0, 0, 0⟩ : Ev)
    rw [h0, h1, h2, h3]
  | 2, _, h =>
    have h0 := h 0 (by decide)
    have h1 := h 1 (by decide)
    have h2 := h 2 (by decide)
    show (⟨1, ⟨3, 0, 0, f 0, f 1, f 2, 0⟩, 0, 0, 0⟩ : Ev) = (⟨1, ⟨3, 0, 0, ix 0 a 0, ix 0 a 1, ix 0 a 2, 0⟩, 0, 0, 0⟩ : Ev)
    rw [h0, h1, h2]
  | 3, _, h =>
    have h0 := h 0 (by decide)
    have h1 := h 1 (by decide)
    show (⟨1, ⟨4, 0, 0, 0, 0, f 0, f 1⟩, 0, 0, 0⟩ : Ev) = (⟨1, ⟨4, 0, 0, 0, 0, ix 0 a 0, ix 0 a 1⟩, 0, 0, 0⟩ : Ev)
    rw [h0, h1]
  | 4, _, h =>
    have h0 := h 0 (by decide)
    have h1 := h 1 (by decide)
    show (⟨1, ⟨5, f 0, f 1, 0, 0, 0, 0⟩, 0, 0, 0⟩ : Ev) = (⟨1, ⟨5, ix 0 a 0, ix 0 a 1, 0, 0, 0, 0⟩, 0, 0, 0⟩ : Ev)
    rw [h0, h1]
  | 5, _, h =>
    have h0 := h 0 (by decide)
    show (⟨2, ⟨0, 0, 0, 0, 0, 0, 0⟩, f 0, 0, 0⟩ : Ev) = (⟨2, ⟨0, 0, 0, 0, 0, 0, 0⟩, ix 0 a 0, 0, 0⟩ : Ev)
    rw [h0]
  | 6, _, h =>
    have h0 := h 0 (by decide)
    show (⟨3, ⟨0, 0, 0, 0, 0, 0, 0⟩, f 0, 0, 0⟩ : Ev) = (⟨3, ⟨0, 0, 0, 0, 0, 0, 0⟩, ix 0 a 0, 0, 0⟩ : Ev)
    rw [h0]
  | 7, _, h =>
    have h0 := h 0 (by decide)
    show (⟨4, ⟨0, 0, 0, 0, 0, 0, 0⟩, f 0, 0, 0⟩ : Ev) = (⟨4, ⟨0, 0, 0, 0, 0, 0, 0⟩, ix 0 a 0, 0, 0⟩ : Ev)
    rw [h0]
  | 8, _, h =>
    have h0 := h 0 (by decide)
    show (⟨6, ⟨0, 0, 0, 0, 0, 0, 0⟩, f 0, 0, 0⟩ : Ev) = (⟨6, ⟨0, 0, 0, 0, 0, 0, 0⟩, ix 0 a 0, 0, 0⟩ : Ev)
    rw [h0]
  | 9, _, h =>
    have h0 := h 0 (by decide)
    show (⟨5, ⟨0, 0, 0, 0, 0, 0, 0⟩, 0, f 0, 0⟩ : Ev) = (⟨5, ⟨0, 0, 0, 0, 0, 0, 0⟩, 0, ix 0 a 0, 0⟩ : Ev)
    rw [h0]
  | 10, _, h =>
    have h0 := h 0 (by decide)
    have h1 := h 1 (by decide)
    show (⟨7, ⟨0, 0, 0, 0, 0, 0, 0⟩, 0, f 0, f 1⟩ : Ev) = (⟨7, ⟨0, 0, 0, 0, 0, 0, 0⟩, 0, ix 0 a 0, ix 0 a 1⟩ : Ev)
    rw [h0, h1]
theorem readEv_k (k : Nat) (hk : k < 11) (wd : ByteArray) (a : List Int) (h : (ix .z manners k).word = wd) (h2 : (ix .z manners k).offs.length = a.length) : readEv wd a = fillM (ix .z manners k) a := by
  match k, hk, h, h2 with
  | 0, _, h, h2 => exact (readEv_in wd a ⟨h, h2⟩).trans rfl
  | 1, _, h, h2 => exact (readEv_let wd a ⟨h, h2⟩).trans rfl
  | 2, _, h, h2 => exact (readEv_trade wd a ⟨h, h2⟩).trans rfl
  | 3, _, h, h2 => exact (readEv_next wd a ⟨h, h2⟩).trans rfl
  | 4, _, h, h2 => exact (readEv_out wd a ⟨h, h2⟩).trans rfl
  | 5, _, h, h2 => exact (readEv_hear wd a ⟨h, h2⟩).trans rfl
  | 6, _, h, h2 => exact (readEv_lose wd a ⟨h, h2⟩).trans rfl
  | 7, _, h, h2 => exact (readEv_twice wd a ⟨h, h2⟩).trans rfl
  | 8, _, h, h2 => exact (readEv_give wd a ⟨h, h2⟩).trans rfl
  | 9, _, h, h2 => exact (readEv_tick wd a ⟨h, h2⟩).trans rfl
  | 10, _, h, h2 => exact (readEv_fall wd a ⟨h, h2⟩).trans rfl
theorem ix_tail {α : Type} (z : α) (l : List α) (j : Nat) : ix z l.tail j = ix z l (j + 1) := by
  cases l with
  | nil => simp [ix]
  | cons a r => rfl
theorem ix_map {α β : Type} (z : α) (z' : β) (g : α → β) (l : List α) (j : Nat) (hj : j < l.length) : ix z' (l.map g) j = g (ix z l j) := by
  rw [ix_lt z' _ j (by rw [List.length_map]; exact hj), ix_lt z l j hj, List.getElem_map]
def lineF (s : ByteArray) (j : Nat) : Int := atoiV (ix ⟨#[]⟩ (words s) (j + 1))
noncomputable def lineEv (s : ByteArray) (k : Nat) : Ev := evLaid (ix .z manners k) (lineF s) (ix .z manners k).offs.length
/-- Where all words behind the first are numbers the program lays the event that the reference reads. -/
theorem line_read (s : ByteArray) (k : Nat) (hi : idxOf (wordB (words s)) manners = k) (hl : (words s).length = (ix .z manners k).offs.length + 1) (hn : numsOk (words s) = true) :
    lineEv s k = readEv (ix ⟨#[]⟩ (words s) 0) (numsOf (words s)) := by
  obtain ⟨hk, hw⟩ := word_idx _ _ hi
  have hof : numsOf (words s) = (words s).tail.map numS := by unfold numsOf; rw [if_pos hn]
  have hlt : (words s).tail.length = (ix .z manners k).offs.length := by rw [List.length_tail, hl]; rfl
  rw [readEv_k k hk _ _ hw (by rw [hof, List.length_map, hlt])]
  unfold lineEv
  refine laid_fill k hk _ _ (fun j hj => ?_)
  rw [hof, ix_map ⟨#[]⟩ 0 numS _ j (by omega), ix_tail]
  refine atoiV_num _ ?_
  unfold numsOk at hn
  rw [List.all_eq_true] at hn
  have hm : ix ⟨#[]⟩ (words s) (j + 1) ∈ (words s).tail := by
    rw [← ix_tail]
    exact ix_mem _ _ _ (by omega)
  have := hn _ hm
  simpa using this
theorem words_nil : words ⟨#[]⟩ = [⟨#[]⟩] := rfl
/-- Where the program's event is written as the line all words behind the first are numbers. -/
theorem line_nums (s : ByteArray) (k : Nat) (hi : idxOf (wordB (words s)) manners = k) (hl : (words s).length = (ix .z manners k).offs.length + 1) (ht : dskText (lineEv s k) = s) : numsOk (words s) = true := by
  obtain ⟨hk, hw⟩ := word_idx _ _ hi
  have hkd := evLaid_kind k hk (lineF s) _ (Nat.le_refl _)
  have hok : evOkB (lineEv s k) = true := by
    cases hv : evOkB (lineEv s k) with
    | true => rfl
    | false =>
      exfalso
      have : dskText (lineEv s k) = ⟨#[]⟩ := by unfold dskText; rw [hv]; exact if_neg (by decide)
      rw [this] at ht
      rw [← ht, words_nil] at hw
      exact man_word0 k hk (by rw [hw]; rfl)
  have hr := fld_range (lineEv s k) k hk hkd.1 hok
  have hj : joinN (ix .z manners k).word ((ix .z manners k).offs.map (lineEv s k).fld) = s := by
    have hx := ht
    unfold dskText at hx
    rw [hok, if_pos rfl, idx_kind (lineEv s k) k hk hkd.1 hkd.2] at hx
    unfold textOf at hx
    rw [if_neg (by omega), Int.toNat_natCast] at hx
    exact hx
  have hws := joinN_inj_words _ (man_nosp k hk) _ (fun n hn => by
    obtain ⟨o, ho, rfl⟩ := List.mem_map.1 hn
    exact itoaB_nosp _ (hr o ho).1 (hr o ho).2) s hj
  unfold numsOk
  rw [hws, List.all_eq_true]
  intro x hx
  obtain ⟨n, hn, rfl⟩ := List.mem_map.1 hx
  obtain ⟨o, ho, rfl⟩ := List.mem_map.1 hn
  rw [numS_itoa _ (hr o ho).1 (hr o ho).2]
  simpa using (hr o ho).1
theorem read_idx (s : ByteArray) (hn : numsOk (words s) = true) (hk : (readEv (ix ⟨#[]⟩ (words s) 0) (numsOf (words s))).kind ≠ 0) :
    ∃ k : Nat, idxOf (wordB (words s)) manners = k ∧ (words s).length = (ix .z manners k).offs.length + 1 := by
  have hof : numsOf (words s) = (words s).tail.map numS := by unfold numsOf; rw [if_pos hn]
  unfold readEv at hk
  split at hk
  · rename_i m hm
    have h1 := List.find?_some hm
    have h2 := List.mem_of_find?_eq_some hm
    obtain ⟨k, hk11, e⟩ := List.getElem_of_mem h2
    have h3 := dec_iff.1 h1
    rw [← e, ← ix_lt .z manners k hk11] at h3
    refine ⟨k, idx_word _ k hk11 h3.1, ?_⟩
    rw [h3.2, hof, List.length_map, List.length_tail]
    have := (words_bounds s).2.2
    omega
  · exact absurd rfl hk
theorem tup_of (e : Ev) (b : Bool) : (Value.tuple #[e.val, .bool b]) = .tuple #[.agg #[.int .i64 e.kind, .int .i64 e.op.kind, .int .i64 e.op.who, .int .i64 e.op.in_, .int .i64 e.op.code, .int .i64 e.op.sec, .int .i64 e.op.fam, .int .i64 e.op.gen, .int .i64 e.at_, .int .i64 e.place, .int .i64 e.keep], .bool b] := rfl
def noneV : Value := .tuple #[.agg #[.int .i64 0, .int .i64 0, .int .i64 0, .int .i64 0, .int .i64 0, .int .i64 0, .int .i64 0, .int .i64 0, .int .i64 0, .int .i64 0, .int .i64 0], .bool false]
noncomputable def specV (s : ByteArray) : Value := .tuple #[(evOf (specEv s)).val, .bool (specEv s).isSome]
theorem specV_none {s : ByteArray} (h : specEv s = none) : specV s = noneV := by unfold specV; rw [h]; rfl
theorem specV_long {s : ByteArray} (h : 30 < s.size) : specV s = noneV := specV_none (by unfold specEv; rw [if_pos (.inl h)])
theorem specV_of {s : ByteArray} (h : ∀ k : Nat, idxOf (wordB (words s)) manners = k → (words s).length = (ix .z manners k).offs.length + 1 → dskText (lineEv s k) ≠ s) : specV s = noneV := by
  refine specV_none ?_
  unfold specEv
  split
  · rfl
  · rename_i h1
    rw [if_pos]
    have hn : numsOk (words s) = true := by
      rcases Bool.eq_false_or_eq_true (numsOk (words s)) with h | h
      · exact h
      · exact absurd (.inr h) h1
    by_cases h0 : (readEv (ix ⟨#[]⟩ (words s) 0) (numsOf (words s))).kind = 0
    · exact .inl h0
    · right
      obtain ⟨k, hi, hl⟩ := read_idx s hn h0
      rw [← line_read s k hi hl hn]
      exact h k hi hl
theorem specV_line {s : ByteArray} (hs : s.size ≤ 30) {k : Nat} (hi : idxOf (wordB (words s)) manners = k) (hl : (words s).length = (ix .z manners k).offs.length + 1) : specV s = lineRes s k := by
  have hk := (word_idx _ _ hi).1
  show _ = evRes (lineEv s k) s
  by_cases ht : dskText (lineEv s k) = s
  · have hn := line_nums s k hi hl ht
    have he := line_read s k hi hl hn
    have hkd := evLaid_kind k hk (lineF s) _ (Nat.le_refl _)
    rw [evRes_hit ht]
    unfold specV specEv
    rw [if_neg (by rw [hn]; simp; omega), ← he, if_neg (by
      rintro (h | h)
      · exact man_kind k hk (hkd.1.symm.trans h)
      · exact h ht)]
    rfl
  · rw [evRes_miss ht]
    exact specV_of (fun j hj _ => by
      obtain rfl : k = j := by have := hi.symm.trans hj; omega
      exact ht)
theorem iDskEvent_any (s : ByteArray) (hs : s.size ≤ 4294967280) (w : World) (he : Env w) :
    Calls Tryd.prog 9 #[.string s] w fun e' w' => e' = .returned (specV s) ∧ Below w.heap.size w w' := by
  rcases Nat.lt_or_ge 30 s.size with h | h
  · rw [specV_long h]
    exact iEv_long s hs h _ rfl w he
  · rcases idxOf_cases (wordB (words s)) with hi | ⟨k, hk, hi⟩
    · rw [specV_of (fun k hk _ => by rw [hi] at hk; omega)]
      exact iEv_word s h hi w he
    · by_cases hl : (words s).length = (ix .z manners k).offs.length + 1
      · rw [specV_line h hi hl]
        exact iEv_text s h k hk hi hl w he
      · rw [specV_of (fun j hj hl2 => by
          obtain rfl : k = j := by have := hi.symm.trans hj; omega
          exact absurd hl2 hl)]
        exact iEv_many s h k hk hi hl w he
end Go.Proofs.YtaeifbmdjjmgkaaDoor
