/- Facts of stores after writes: plain Lean, no program in sight. Conditions: none. -/
import Derived.Test.YtcmjdjomidhdnaaGreatDoorGloI
namespace Go.Proofs.AI
open Go.RowKit Go.Proofs
set_option linter.unusedVariables false
set_option linter.unusedSimpArgs false
set_option maxRecDepth 100000
theorem writeI_len (s : Sto) (w : Wrt) : (writeI s w).length ≤ s.length + 1 := by
  simp only [writeI]
  split <;> split
  · rw [List.length_eraseIdx]; split <;> omega
  · rw [List.length_set]; omega
  · omega
  · rw [List.length_insertIdx]; split <;> omega
theorem doL_len : ∀ (ws : List Wrt) (s : Sto), stoB s = true → (doL s ws).length ≤ s.length + ws.length
  | [], s, _ => by simp [doL]
  | w :: ws, s, h => by
    rw [doL]
    cases hb : wrtB w
    · simp
    · rw [write_eq h]
      cases hd : decide (40 < (writeI s w).length)
      · simp only [Bool.not_true, cond_false]
        have := doL_len ws _ (write_sto h hb (by simpa using hd))
        have := writeI_len s w
        simp only [List.length_cons]; omega
      · simp
theorem doS_len (ws : List Wrt) (s : Sto) : (doS s ws).length ≤ s.length + ws.length := by
  rw [doS]
  cases h : stoB s
  · simp
  · exact doL_len ws s h
theorem doS_cons {s : Sto} {w : Wrt} {ws : List Wrt} (hs : stoB s = true) (hw : wrtB w = true) (hl : s.length < 40) : doS s (w :: ws) = doS (writeI s w) ws := by
  have h2 := writeI_len s w
  have h3 := write_sto hs hw (by omega)
  simp only [doS, hs, h3, cond_true]
  rw [doL, hw, write_eq hs]
  have : decide (40 < (writeI s w).length) = false := decide_eq_false (by omega)
  rw [this]; rfl
theorem doS_nil {s : Sto} (hs : stoB s = true) : doS s [] = s := by simp [doS, hs, doL]
theorem get_app (a b : Sto) (k : ByteArray) : getS (a ++ b) k = (getS a k).or (getS b k) := by
  simp only [getS, List.find?_append]
  cases a.find? (fun x => eqB x.key k) <;> simp
theorem get_no {s : Sto} {k : ByteArray} (h : ∀ x ∈ s, x.key ≠ k) : getS s k = none := by
  simp only [getS, Option.map_eq_none_iff, List.find?_eq_none]
  intro x hx he
  exact h x hx (eqB_iff'.1 he)
theorem get_one (x : Item) (k : ByteArray) : getS [x] k = if x.key = k then some x.val else none := by
  by_cases h : x.key = k
  · have : eqB x.key k = true := eqB_iff'.2 h
    simp [getS, h, eqB_iff'.2 rfl]
  · have : eqB x.key k = false := by
      cases hc : eqB x.key k
      · rfl
      · exact absurd (eqB_iff'.1 hc) h
    simp [getS, this, h]
/-- Before a key's place all keys are smaller, behind it all are greater. -/
theorem pos_split {s : Sto} (hs : stoB s = true) (k : ByteArray) : (∀ x ∈ s.take (posS s k), x.key ≠ k) ∧ (hitS s k = false → ∀ x ∈ s.drop (posS s k), x.key ≠ k) ∧ ∀ x ∈ s.drop (posS s k + 1), x.key ≠ k := by
  refine ⟨fun x hx he => ?_, fun hh x hx he => ?_, fun x hx he => ?_⟩
  · obtain ⟨j, h1, h2, rfl⟩ := mem_take (d := dItem) hx
    have := (pos_lt hs h2).2 h1
    rw [he, ltB_irr] at this; cases this
  · obtain ⟨j, h1, h2, rfl⟩ := mem_drop (d := dItem) hx
    have := pos_gt hs hh h1 h2
    rw [he, ltB_irr] at this; cases this
  · obtain ⟨j, h1, h2, rfl⟩ := mem_drop (d := dItem) hx
    have h3 := sto_lt hs (show posS s k < j by omega) h2
    rw [he] at h3
    exact absurd ((pos_lt hs (by omega)).1 h3) (Nat.lt_irrefl _)
theorem get_write {s : Sto} (hs : stoB s = true) (w : Wrt) (k : ByteArray) : getS (writeI s w) k = if k = w.key then (if w.del = true then none else some w.val) else getS s k := by
  obtain ⟨h1, h2, h3⟩ := pos_split hs w.key
  have hp := pos_le s w.key
  have hcut : s.take (posS s w.key) ++ s.drop (posS s w.key) = s := List.take_append_drop _ _
  simp only [writeI]
  cases hh : hitS s w.key
  · simp only [Bool.false_eq_true, if_false]
    cases hd : w.del
    · simp only [Bool.false_eq_true, if_false]
      rw [ins_td _ _ _ hp, get_app, show (⟨w.key, w.val⟩ : Item) :: s.drop (posS s w.key) = [⟨w.key, w.val⟩] ++ s.drop (posS s w.key) from rfl, get_app, get_one]
      by_cases hk : k = w.key
      · subst hk; rw [get_no h1]; simp
      · rw [if_neg (fun h => hk h.symm), if_neg hk, Option.none_or, ← get_app, hcut]
    · simp only [if_true]
      by_cases hk : k = w.key
      · subst hk
        rw [if_pos rfl, ← hcut, get_app, get_no h1, get_no (h2 hh)]; rfl
      · rw [if_neg hk]
  · simp only [if_true]
    have hn : posS s w.key < s.length := by simp only [hitS, Bool.and_eq_true, decide_eq_true_eq] at hh; exact hh.1
    have hkey : (s.getD (posS s w.key) dItem).key = w.key := by simp only [hitS, Bool.and_eq_true, decide_eq_true_eq] at hh; exact eqB_iff'.1 hh.2
    have hcut2 : s.take (posS s w.key) ++ ([s.getD (posS s w.key) dItem] ++ s.drop (posS s w.key + 1)) = s := by
      rw [List.singleton_append, ← drop_at hn, List.take_append_drop]
    have hold : k ≠ w.key → getS s k = (getS (s.take (posS s w.key)) k).or (getS (s.drop (posS s w.key + 1)) k) := fun hk => by
      conv => lhs; rw [← hcut2]
      rw [get_app, get_app, get_one, hkey, if_neg (fun h => hk h.symm), Option.none_or]
    cases hd : w.del
    · simp only [Bool.false_eq_true, if_false]
      rw [List.set_eq_take_append_cons_drop, if_pos hn, get_app, show (⟨w.key, w.val⟩ : Item) :: s.drop (posS s w.key + 1) = [⟨w.key, w.val⟩] ++ s.drop (posS s w.key + 1) from rfl, get_app, get_one]
      by_cases hk : k = w.key
      · subst hk; rw [get_no h1]; simp
      · rw [if_neg (fun h => hk h.symm), if_neg hk, Option.none_or, hold hk]
    · simp only [if_true]
      rw [List.eraseIdx_eq_take_drop_succ, get_app]
      by_cases hk : k = w.key
      · subst hk
        rw [get_no h1, get_no h3, if_pos rfl]; rfl
      · rw [if_neg hk, hold hk]
end Go.Proofs.AI

namespace Go.Proofs.AI
open Go.RowKit Go.Proofs
set_option linter.unusedVariables false
set_option linter.unusedSimpArgs false
set_option maxRecDepth 100000
theorem two_bytes {s : ByteArray} (h : s.size = 2) : ∃ a b : UInt8, s = ⟨#[a, b]⟩ := by
  obtain ⟨⟨l⟩⟩ := s
  have h : l.length = 2 := h
  match l, h with
  | [a, b], _ => exact ⟨a, b, rfl⟩
theorem at0 (a b : UInt8) : byteAt ⟨#[a, b]⟩ 0 = a.toNat := rfl
theorem at1 (a b : UInt8) : byteAt ⟨#[a, b]⟩ 1 = b.toNat := rfl
theorem kd_eq (c : UInt8) (n : Int) : kd c n = ⟨#[c, UInt8.ofNat (48 + n.toNat)]⟩ := by apply ByteArray.ext; simp [kd, digS]
theorem key2 (a b : UInt8) : keyB ⟨#[a, b]⟩ = (inR a.toNat 97 122 && inR b.toNat 48 57) := by
  have hs : (ByteArray.mk #[a, b]).size = 2 := rfl
  simp only [keyB, hs, at0, show List.range 2 = [0, 1] from rfl, List.all_cons, List.all_nil, dig, at1]
  simp [inR]
theorem kd_key {c : UInt8} {n : Int} (hc : 97 ≤ c.toNat ∧ c.toNat ≤ 122) (hn : 0 ≤ n ∧ n ≤ 9) : keyB (kd c n) = true := by
  rw [kd_eq, key2]
  have : (UInt8.ofNat (48 + n.toNat)).toNat = 48 + n.toNat := by rw [UInt8.toNat_ofNat']; omega
  rw [this]
  simp [inR]; omega
theorem ka_key {n : Nat} (hn : n < 100) : keyB (⟨#[97]⟩ ++ natS n) = true := by
  by_cases h : n < 10
  · rw [natS_lt h]; exact kd_key (c := 97) ⟨by decide, by decide⟩ (by omega)
  · rw [natS_ge h, natS_lt (by omega)]
    have e : (ByteArray.mk #[97]) ++ (digS ((n / 10 : Nat) : Int) ++ digS ((n % 10 : Nat) : Int)) = ⟨#[97, UInt8.ofNat (48 + n / 10), UInt8.ofNat (48 + n % 10)]⟩ := by
      apply ByteArray.ext; simp [digS]
      exact ⟨congrArg _ (by omega), congrArg _ (by omega)⟩
    rw [e]
    have t1 : (UInt8.ofNat (48 + n / 10)).toNat = 48 + n / 10 := by rw [UInt8.toNat_ofNat']; omega
    have t2 : (UInt8.ofNat (48 + n % 10)).toNat = 48 + n % 10 := by rw [UInt8.toNat_ofNat']; omega
    have b0 : byteAt ⟨#[97, UInt8.ofNat (48 + n / 10), UInt8.ofNat (48 + n % 10)]⟩ 0 = 97 := rfl
    have b1 : byteAt ⟨#[97, UInt8.ofNat (48 + n / 10), UInt8.ofNat (48 + n % 10)]⟩ 1 = ((UInt8.ofNat (48 + n / 10)).toNat : Int) := rfl
    have b2 : byteAt ⟨#[97, UInt8.ofNat (48 + n / 10), UInt8.ofNat (48 + n % 10)]⟩ 2 = ((UInt8.ofNat (48 + n % 10)).toNat : Int) := rfl
    have hs : (ByteArray.mk #[97, UInt8.ofNat (48 + n / 10), UInt8.ofNat (48 + n % 10)]).size = 3 := rfl
    simp only [keyB, hs, show List.range 3 = [0, 1, 2] from rfl, List.all_cons, List.all_nil, dig, b0, b1, b2, t1, t2]
    simp [inR]; omega
theorem val_ok {xs : List Int} (h1 : 1 ≤ xs.length ∧ xs.length ≤ 3) (h : ∀ x ∈ xs, 0 ≤ x ∧ x ≤ 9999) : valB xs = true := by
  simp only [valB, Bool.and_eq_true, List.all_eq_true]
  exact ⟨fun x hx => by have := h x hx; simp [inR]; omega, by simp [inR]; omega⟩
theorem sec_ok {n : Int} (h : 0 ≤ n ∧ n ≤ 99) : 0 ≤ secB n ∧ secB n ≤ 9999 := by
  have : inR n 0 99 = true := by simp [inR]; omega
  simp only [secB, this, if_true]; omega
theorem wrt_set {k : ByteArray} {v : List Int} (hk : keyB k = true) (hv : valB v = true) : wrtB ⟨k, false, v⟩ = true := by simp [wrtB, hk, hv]
theorem wrt_del {k : ByteArray} (hk : keyB k = true) : wrtB ⟨k, true, []⟩ = true := by simp [wrtB, hk]
theorem plan_wrt {p : Int} {s : Sto} (h : plcB p s = true) {o : Opr} (ho : opOk o = true) {tx : Int} (ht : 0 ≤ tx ∧ tx ≤ 29) : ∀ w ∈ (planP p s tx o).writes, wrtB w = true := by
  obtain ⟨h1, h2, h3⟩ := plc_parts.1 h
  have hn := op_nums ho
  have hk := op_kind ho
  have hp : p = 1 ∨ p = 2 ∨ p = 3 := by simp [inR] at h1; omega
  have c115 : (97 : Nat) ≤ (115 : UInt8).toNat ∧ (115 : UInt8).toNat ≤ 122 := by decide
  have c99 : (97 : Nat) ≤ (99 : UInt8).toNat ∧ (99 : UInt8).toNat ≤ 122 := by decide
  have c102 : (97 : Nat) ≤ (102 : UInt8).toNat ∧ (102 : UInt8).toNat ≤ 122 := by decide
  intro w hw
  rcases hp with rfl | rfl | rfl
  · simp only [planP, if_true, inP] at hw
    split at hw
    · split at hw
      · simp [noP] at hw
      · simp at hw; subst hw
        exact wrt_set (kd_key c115 hn.2.1) (val_ok (by simp) (by simp; omega))
    · split at hw
      · split at hw
        · simp at hw; subst hw; exact wrt_del (kd_key c115 hn.2.1)
        · simp at hw
      · simp [noP] at hw
  · simp only [planP, show ¬ (2 : Int) = 1 by decide, if_false, if_true, mayP] at hw
    split at hw
    · split at hw
      · simp [noP] at hw
      · simp at hw; subst hw
        have := sec_ok hn.2.2.2.1
        exact wrt_set (kd_key c99 (by omega)) (val_ok (by simp) (by simp; omega))
    · split at hw
      · simp only [tradeP] at hw
        split at hw
        · rename_i ht
          simp at hw
          have hv : hasV s (kd 99 o.code) = true := ht.1
          rcases opt_cases (getS s (kd 99 o.code)) with hg | ⟨v, hg⟩
          · simp [hasV, hg] at hv
          · have hgc := (get_code h hg).2
            rcases hw with rfl | rfl
            · exact wrt_del (kd_key c99 (by omega))
            · refine wrt_set (kd_key c102 (by omega)) (val_ok (by simp) ?_)
              simp [getV, hg] at hgc ⊢; omega
        · simp [noP] at hw
      · split at hw
        · simp only [nextP] at hw
          split at hw
          · simp [noP] at hw
          · rename_i ht
            have hv : ¬ hasV s (kd 102 o.fam) = false := fun e => ht (.inl e)
            rcases opt_cases (getS s (kd 102 o.fam)) with hg | ⟨v, hg⟩
            · simp [hasV, hg] at hv
            · have hgf := get_fam h hg
              obtain ⟨a, b, c, rfl⟩ := len3 hgf.1
              have hgv : getV s (kd 102 o.fam) = [a, b, c] := by simp [getV, hg]
              rw [hgv] at hw
              simp only [List.mem_singleton] at hw
              subst hw
              have hgf := hgf.2
              simp only [List.getD_cons_zero, List.getD_cons_succ] at hgf
              refine wrt_set (kd_key c102 (by omega)) ?_
              show valB (if o.gen < b then [a, b, 0] else [a, b + 1, 1]) = true
              split <;> exact val_ok (by simp) (by simp; omega)
        · simp only [outP, List.mem_map, List.mem_filter] at hw
          obtain ⟨it, ⟨hm, hi⟩, rfl⟩ := hw
          have hb := sto_item h2 hm
          have hv := sto_val h2 hm
          simp only [itemB, Bool.and_eq_true] at hb
          refine wrt_set hb.1 (val_ok (by simp) ?_)
          have h0 := hv.2.2 0
          have h1 := hv.2.2 1
          intro x hx
          simp only [List.mem_cons, List.not_mem_nil, or_false] at hx
          rcases hx with rfl | rfl | rfl <;> omega
  · simp only [planP, show ¬ (3 : Int) = 1 by decide, show ¬ (3 : Int) = 2 by decide, if_false] at hw
    split at hw
    · simp [noP] at hw
    · simp at hw; subst hw
      exact wrt_set (ka_key (by omega)) (val_ok (by simp) (by simp; omega))
theorem rank_len {n B : Nat} {r : Nat → Nat} (h1 : ∀ i, i < n → r i < B) (h2 : ∀ i, i + 1 < n → r i < r (i + 1)) : n ≤ B := by
  have : ∀ i, i < n → i ≤ r i := fun i => by
    induction i with
    | zero => intro _; omega
    | succ i ih => intro h; have := ih (by omega); have := h2 i h; omega
  by_cases h : n = 0
  · omega
  · have a := this (n - 1) (by omega)
    have b := h1 (n - 1) (by omega)
    omega
theorem lt_two {a b c d : UInt8} (h : ltB ⟨#[a, b]⟩ ⟨#[c, d]⟩ = true) : a.toNat < c.toNat ∨ (a = c ∧ b.toNat < d.toNat) := by
  have h : Op.bytesLess [a, b] [c, d] = true := by
    simpa only [ltB, ByteArray.toList_eq] using h
  simp only [Op.bytesLess, Bool.or_eq_true, Bool.and_eq_true, decide_eq_true_eq, beq_iff_eq, Bool.and_false, Bool.or_false] at h
  rcases h with h | ⟨h1, h2⟩
  · exact .inl h
  · exact .inr ⟨h1, UInt8.lt_iff_toNat_lt.1 h2⟩
def rankK (k : ByteArray) : Nat := (if byteAt k 0 = 102 then 10 else 0) + (byteAt k 1 - 48).toNat
theorem plc_len {p : Int} {s : Sto} (h : plcB p s = true) (hp : p = 1 ∨ p = 2) : s.length ≤ if p = 1 then 10 else 20 := by
  obtain ⟨h1, h2, h3⟩ := plc_parts.1 h
  have two : ∀ x ∈ s, ∃ a b : UInt8, x.key = ⟨#[a, b]⟩ ∧ (p = 1 → a.toNat = 115) ∧ (p = 2 → a.toNat = 99 ∨ a.toNat = 102) ∧ 48 ≤ b.toNat ∧ b.toNat ≤ 57 := fun x hx => by
    have hf := h3 x hx
    have hb := sto_item h2 hx
    simp only [itemB, Bool.and_eq_true] at hb
    have hs : x.key.size = 2 := by
      rcases hp with rfl | rfl
      · simp [formI] at hf
        rcases hf.2 with h | h
        · omega
        · exact h
      · simp [formI] at hf
        rcases hf.2 with h | h
        · omega
        · exact h
    obtain ⟨a, b, e⟩ := two_bytes hs
    rw [e, key2] at hb
    simp [inR] at hb
    refine ⟨a, b, e, fun hp => ?_, fun hp => ?_, by omega, by omega⟩
    · subst hp; simp [formI, e, at0] at hf; omega
    · subst hp; simp [formI, e, at0] at hf; omega
  refine rank_len (r := fun i => rankK (s.getD i dItem).key) (fun i hi => ?_) (fun i hi => ?_)
  · obtain ⟨a, b, e, q1, q2, q3, q4⟩ := two _ (getD_lt (d := dItem) hi ▸ List.getElem_mem hi : s.getD i dItem ∈ s)
    simp only [rankK, e, at0, at1]
    rcases hp with rfl | rfl
    · have := q1 rfl
      rw [if_neg (by omega)]; simp; omega
    · have := q2 rfl
      split <;> simp <;> omega
  · obtain ⟨a, b, e, q1, q2, q3, q4⟩ := two _ (getD_lt (d := dItem) (show i < s.length by omega) ▸ List.getElem_mem _ : s.getD i dItem ∈ s)
    obtain ⟨c, d, e', r1, r2, r3, r4⟩ := two _ (getD_lt (d := dItem) hi ▸ List.getElem_mem hi : s.getD (i + 1) dItem ∈ s)
    have hl := sto_step h2 hi
    rw [e, e'] at hl
    have hl := lt_two hl
    simp only [rankK, e, e', at0, at1]
    rcases hp with rfl | rfl
    · have := q1 rfl; have := r1 rfl
      rw [if_neg (by omega), if_neg (by omega)]
      rcases hl with hl | ⟨_, hl⟩ <;> omega
    · have := q2 rfl; have := r2 rfl
      rcases hl with hl | ⟨rfl, hl⟩
      · rw [if_neg (by omega), if_pos (by omega)]; omega
      · split <;> omega
end Go.Proofs.AI
