/- Words of a line, and numbers of at most three digits, in plain Lean. Conditions: none. -/
import Derived.Test.YtaeifbmdjjmgkaaDoorDskD
import Derived.Lib.Split
import Derived.Lib.SplitLaws
import Derived.Lib.IndexBytes
namespace Go.Proofs.YtaeifbmdjjmgkaaDoor
open Go.RowKit
set_option linter.unusedVariables false
set_option linter.unusedSimpArgs false

/-! ### words -/
def splitL : List UInt8 → List (List UInt8)
  | [] => [[]]
  | c :: r => if c = 32 then [] :: splitL r else match splitL r with
    | h :: t => (c :: h) :: t
    | [] => [[c]]
theorem splitL_ne : ∀ l, ∃ h t, splitL l = h :: t
  | [] => ⟨[], [], rfl⟩
  | c :: r => by
    obtain ⟨h, t, e⟩ := splitL_ne r
    by_cases hc : c = 32
    · exact ⟨[], splitL r, by simp [splitL, hc]⟩
    · exact ⟨c :: h, t, by simp [splitL, hc, e]⟩
theorem splitL_sp (r : List UInt8) : splitL (32 :: r) = [] :: splitL r := by simp [splitL]
theorem splitL_no {c : UInt8} {r h : List UInt8} {t : List (List UInt8)} (hc : c ≠ 32) (e : splitL r = h :: t) : splitL (c :: r) = (c :: h) :: t := by simp [splitL, hc, e]
/-- What stands before the first blank. -/
theorem splitL_head : ∀ (a r : List UInt8), (∀ c ∈ a, c ≠ 32) → splitL (a ++ 32 :: r) = a :: splitL r
  | [], r, _ => splitL_sp r
  | c :: a, r, h => by
    have ih := splitL_head a r (fun d hd => h d (List.mem_cons_of_mem _ hd))
    exact splitL_no (h c List.mem_cons_self) ih
theorem splitL_one : ∀ (a : List UInt8), (∀ c ∈ a, c ≠ 32) → splitL a = [a]
  | [], _ => rfl
  | c :: a, h => splitL_no (h c List.mem_cons_self) (splitL_one a (fun d hd => h d (List.mem_cons_of_mem _ hd)))
theorem splitL_index : ∀ (l : List UInt8), (Lib.indexByte l 32 = -1 ∧ splitL l = [l]) ∨ ∃ i : Nat, Lib.indexByte l 32 = i ∧ i < l.length ∧ splitL l = l.take i :: splitL (l.drop (i + 1))
  | [] => .inl ⟨rfl, rfl⟩
  | b :: l => by
    by_cases hb : b = 32
    · subst hb
      exact .inr ⟨0, by simp [Lib.indexByte], by simp, by simp [splitL]⟩
    · rcases splitL_index l with ⟨h1, h2⟩ | ⟨i, h1, h2, h3⟩
      · exact .inl ⟨by simp [Lib.indexByte, hb, h1], splitL_no hb h2⟩
      · refine .inr ⟨i + 1, ?_, by simp; omega, ?_⟩
        · have : ¬ ((i : Int) = -1) := by omega
          simp [Lib.indexByte, hb, h1, this]
        · rw [splitL_no hb h3]
          simp
theorem count_drop : ∀ (l : List UInt8) (i : Nat), Lib.indexByte l 32 = i → l.count 32 = (l.drop (i + 1)).count 32 + 1
  | [], i, h => by simp [Lib.indexByte] at h
  | b :: l, i, h => by
    by_cases hb : b = 32
    · subst hb
      simp [Lib.indexByte] at h
      obtain rfl : i = 0 := by omega
      simp
    · simp only [Lib.indexByte, beq_iff_eq, hb, if_false] at h
      split at h
      · omega
      · obtain ⟨j, rfl⟩ : ∃ j, i = j + 1 := ⟨i - 1, by
          have := Lib.indexByte_ge l 32
          omega⟩
        have ih := count_drop l j (by omega)
        simp only [List.drop_succ_cons]
        rw [List.count_cons_of_ne (by simpa using hb), ih]
theorem splitK_splitL : ∀ (k : Nat) (l : List UInt8), l.count 32 = k → Lib.splitK [32] 0 k l = splitL l
  | 0, l, h => by
    rcases splitL_index l with ⟨_, h2⟩ | ⟨i, h1, _, _⟩
    · rw [h2]; rfl
    · have := count_drop l i h1; omega
  | k + 1, l, h => by
    rcases splitL_index l with ⟨h1, _⟩ | ⟨i, h1, h2, h3⟩
    · exfalso
      have : l.count 32 = 0 := by
        rw [List.count_eq_zero]
        intro hm
        have : ∀ l : List UInt8, (32 : UInt8) ∈ l → Lib.indexByte l 32 ≠ -1 := by
          intro l
          induction l with
          | nil => intro h; cases h
          | cons b l ih =>
            intro hm
            by_cases hb : b = 32
            · simp [Lib.indexByte, hb]
            · have hm2 : (32 : UInt8) ∈ l := by
                rcases List.mem_cons.1 hm with e | e
                · exact absurd e.symm hb
                · exact e
              have h2 := ih hm2
              have h3 := Lib.indexByte_ge l 32
              simp [Lib.indexByte, hb, h2]
              omega
        exact this l hm h1
      omega
    · have hc := count_drop l i h1
      have ih := splitK_splitL k (l.drop (i + 1)) (by omega)
      unfold Lib.splitK
      rw [Lib.index_one, h1]
      have : ¬ ((i : Int) = -1) := by omega
      simp [this, ih, h3]
def words (s : ByteArray) : List ByteArray := (splitL s.data.toList).map fun l => ⟨l.toArray⟩
theorem data_of (l : List UInt8) : (⟨l.toArray⟩ : ByteArray).data.toList = l := by simp
theorem of_data (s : ByteArray) : (⟨s.data.toList.toArray⟩ : ByteArray) = s := by cases s; simp
/-- strings.Split at a blank. -/
theorem split_words (s : ByteArray) : Lib.splitB sp 0 (Lib.countB s sp) s = words s := by
  have h := Lib.splitB_data sp 0 (Lib.countB s sp) s
  have hc : Lib.countB s sp = s.data.toList.count 32 := by
    show Lib.count s.data.toList [32] = _
    exact Lib.count_one 32 _
  have hs : sp.data.toList = [32] := rfl
  rw [hs, hc, splitK_splitL _ _ rfl] at h
  unfold words
  rw [hc, ← h, List.map_map]
  have : ((fun l => (⟨l.toArray⟩ : ByteArray)) ∘ fun x : ByteArray => x.data.toList) = id := by
    funext x; exact of_data x
  rw [this, List.map_id]
def NoSp (s : ByteArray) : Prop := ∀ c ∈ s.data.toList, c ≠ 32
theorem data_append (a b : ByteArray) : (a ++ b).data.toList = a.data.toList ++ b.data.toList := by simp
theorem words_one (a : ByteArray) (h : NoSp a) : words a = [a] := by
  unfold words
  rw [splitL_one _ h]
  simp [of_data]
theorem words_head (a r : ByteArray) (h : NoSp a) : words (a ++ (sp ++ r)) = a :: words r := by
  unfold words
  rw [data_append, data_append, show sp.data.toList = [32] from rfl]
  show List.map _ (splitL (a.data.toList ++ 32 :: r.data.toList)) = _
  rw [splitL_head _ _ h]
  simp [of_data]
theorem joinN_front (s x : ByteArray) : ∀ (l : List Int), joinN (s ++ x) l = s ++ joinN x l
  | [] => rfl
  | n :: l => by
    show joinN ((s ++ x) ++ (sp ++ itoaB n)) l = s ++ joinN (x ++ (sp ++ itoaB n)) l
    rw [ByteArray.append_assoc, joinN_front s _ l]
theorem words_join (w : ByteArray) (hw : NoSp w) : ∀ (l : List Int), (∀ n ∈ l, NoSp (itoaB n)) → words (joinN w l) = w :: l.map itoaB
  | [], _ => words_one w hw
  | n :: l, h => by
    show words (joinN (w ++ (sp ++ itoaB n)) l) = _
    rw [joinN_front w (sp ++ itoaB n) l, joinN_front sp (itoaB n) l, words_head _ _ hw, words_join (itoaB n) (h n List.mem_cons_self) l (fun m hm => h m (List.mem_cons_of_mem _ hm))]
    rfl
theorem joinN_inj_words (w : ByteArray) (hw : NoSp w) (l : List Int) (hl : ∀ n ∈ l, NoSp (itoaB n)) (s : ByteArray) (h : joinN w l = s) : words s = w :: l.map itoaB := by rw [← h]; exact words_join w hw l hl

/-! ### numbers of at most three digits -/
theorem itoaB_1 (n : Nat) (h : n < 10) : (itoaB n).data.toList = [UInt8.ofNat (48 + n)] := by rw [itoaB_dig n h]; rfl
theorem itoaB_2 (n : Nat) (h0 : 10 ≤ n) (h : n < 100) : (itoaB n).data.toList = [UInt8.ofNat (48 + n / 10), UInt8.ofNat (48 + n % 10)] := by
  rw [itoaB_step n h0, data_append, itoaB_1 (n / 10) (by omega)]; rfl
theorem itoaB_3 (n : Nat) (h0 : 100 ≤ n) (h : n < 1000) : (itoaB n).data.toList = [UInt8.ofNat (48 + n / 100), UInt8.ofNat (48 + n / 10 % 10), UInt8.ofNat (48 + n % 10)] := by
  rw [itoaB_step n (by omega), data_append, itoaB_2 (n / 10) (by omega) (by omega), Nat.div_div_eq_div_mul]; rfl
def dval (c : UInt8) : Nat := c.toNat - 48
def isDig (c : UInt8) : Prop := 48 ≤ c.toNat ∧ c.toNat ≤ 57
def foldD (l : List UInt8) : Nat := l.foldl (fun n c => n * 10 + dval c) 0
theorem dig_dig (n : Nat) (h : n < 10) : isDig (UInt8.ofNat (48 + n)) ∧ dval (UInt8.ofNat (48 + n)) = n := by
  have : (UInt8.ofNat (48 + n)).toNat = 48 + n := by simp [UInt8.toNat_ofNat']; omega
  unfold isDig dval
  omega
theorem itoaB_digs (n : Nat) (h : n < 1000) : (∀ c ∈ (itoaB n).data.toList, isDig c) ∧ foldD (itoaB n).data.toList = n ∧ 1 ≤ (itoaB n).data.toList.length ∧ (itoaB n).data.toList.length ≤ 3 := by
  rcases Nat.lt_or_ge n 10 with h1 | h1
  · rw [itoaB_1 n h1]
    have a := dig_dig n h1
    refine ⟨fun c hc => ?_, ?_, by simp, by simp⟩
    · rw [List.mem_singleton.1 hc]; exact a.1
    · simp only [foldD, List.foldl_cons, List.foldl_nil, a.2]; omega
  rcases Nat.lt_or_ge n 100 with h2 | h2
  · rw [itoaB_2 n h1 h2]
    have a := dig_dig (n / 10) (by omega)
    have b := dig_dig (n % 10) (by omega)
    refine ⟨fun c hc => ?_, ?_, by simp, by simp⟩
    · simp only [List.mem_cons, List.not_mem_nil, or_false] at hc
      rcases hc with rfl | rfl
      · exact a.1
      · exact b.1
    · simp only [foldD, List.foldl_cons, List.foldl_nil, a.2, b.2]; omega
  · rw [itoaB_3 n h2 h]
    have a := dig_dig (n / 100) (by omega)
    have b := dig_dig (n / 10 % 10) (by omega)
    have c' := dig_dig (n % 10) (by omega)
    refine ⟨fun c hc => ?_, ?_, by simp, by simp⟩
    · simp only [List.mem_cons, List.not_mem_nil, or_false] at hc
      rcases hc with rfl | rfl | rfl
      · exact a.1
      · exact b.1
      · exact c'.1
    · simp only [foldD, List.foldl_cons, List.foldl_nil, a.2, b.2, c'.2]; omega
theorem itoaB_nosp (n : Int) (h0 : 0 ≤ n) (h1 : n ≤ 999) : NoSp (itoaB n) := by
  obtain ⟨m, rfl⟩ := Int.eq_ofNat_of_zero_le h0
  intro c hc
  have := (itoaB_digs m (by omega)).1 c hc
  unfold isDig at this
  rintro rfl
  revert this
  decide
/-- What a text says as a number: itself, or -1. -/
def NumOf (s : ByteArray) (n : Int) : Prop := (0 ≤ n ∧ n ≤ 999 ∧ s = itoaB n) ∨ (n = -1 ∧ ∀ m : Nat, m ≤ 999 → s ≠ itoaB m)
theorem NumOf.unique {s : ByteArray} {n m : Int} (h : NumOf s n) (h' : NumOf s m) : n = m := by
  rcases h with ⟨a, b, c⟩ | ⟨a, b⟩ <;> rcases h' with ⟨a', b', c'⟩ | ⟨a', b'⟩
  · obtain ⟨k, rfl⟩ := Int.eq_ofNat_of_zero_le a
    obtain ⟨k', rfl⟩ := Int.eq_ofNat_of_zero_le a'
    have e1 := (itoaB_digs k (by omega)).2.1
    have e2 := (itoaB_digs k' (by omega)).2.1
    rw [← c] at e1
    rw [← c'] at e2
    omega
  · obtain ⟨k, rfl⟩ := Int.eq_ofNat_of_zero_le a
    exact absurd c (b' k (by omega))
  · obtain ⟨k, rfl⟩ := Int.eq_ofNat_of_zero_le a'
    exact absurd c' (b k (by omega))
  · omega
open Classical in
noncomputable def numS (s : ByteArray) : Int := if h : ∃ m : Nat, m ≤ 999 ∧ s = itoaB m then (Classical.choose h : Nat) else -1
theorem numS_of (s : ByteArray) : NumOf s (numS s) := by
  unfold numS
  split
  · rename_i h
    have := Classical.choose_spec h
    exact .inl ⟨by omega, by omega, this.2⟩
  · rename_i h
    exact .inr ⟨rfl, fun m hm e => h ⟨m, hm, e⟩⟩
theorem numS_eq {s : ByteArray} {n : Int} (h : NumOf s n) : n = numS s := h.unique (numS_of s)
theorem numS_itoa (n : Int) (h0 : 0 ≤ n) (h1 : n ≤ 999) : numS (itoaB n) = n := (numS_eq (.inl ⟨h0, h1, rfl⟩)).symm
end Go.Proofs.YtaeifbmdjjmgkaaDoor
