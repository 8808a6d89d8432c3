/- Plans hold what they write, and hang on nothing that they do not hold; stores that hold the same are the same: plain Lean, no program in sight. Conditions: none. -/
import Derived.Test.YtcmjdjomidhdnaaGreatDoorGloK
import Derived.KernelRfl
import Derived.Test.YtcmjdjomidhdnaaGreatDoorGloL
import Derived.Test.YtcmjdjomidhdnaaGreatDoorGloC
namespace Go.Proofs.AI
open Go.RowKit Go.Proofs
set_option linter.unusedVariables false
set_option linter.unusedSimpArgs false
set_option maxRecDepth 100000
theorem sorted_ext {α : Type} {R : α → α → Prop} (hi : ∀ x, ¬ R x x) (ha : ∀ x y, R x y → ¬ R y x) : ∀ {a b : List α}, a.Pairwise R → b.Pairwise R → (∀ x, x ∈ a ↔ x ∈ b) → a = b
  | [], [], _, _, _ => rfl
  | [], y :: b, _, _, h => absurd ((h y).2 (by simp)) (by simp)
  | x :: a, [], _, _, h => absurd ((h x).1 (by simp)) (by simp)
  | x :: a, y :: b, h1, h2, h => by
    obtain ⟨p1, p2⟩ := List.pairwise_cons.1 h1
    obtain ⟨q1, q2⟩ := List.pairwise_cons.1 h2
    have hxy : x = y := by
      rcases List.mem_cons.1 ((h x).1 (by simp)) with e | e
      · exact e
      · rcases List.mem_cons.1 ((h y).2 (by simp)) with e2 | e2
        · exact e2.symm
        · exact absurd (p1 y e2) (ha _ _ (q1 x e))
    subst hxy
    refine congrArg _ (sorted_ext hi ha p2 q2 fun z => ⟨fun hz => ?_, fun hz => ?_⟩)
    · rcases List.mem_cons.1 ((h z).1 (by simp [hz])) with rfl | e
      · exact absurd (p1 _ hz) (hi _)
      · exact e
    · rcases List.mem_cons.1 ((h z).2 (by simp [hz])) with rfl | e
      · exact absurd (q1 _ hz) (hi _)
      · exact e
theorem eqB_self (k : ByteArray) : eqB k k = true := by simp [eqB]
theorem sto_sorted {s : Sto} (h : stoB s = true) : s.Pairwise fun a b => ltB a.key b.key = true := (sto_pair.1 h).2.2
theorem sorted_get {s : Sto} (h : s.Pairwise fun a b => ltB a.key b.key = true) {it : Item} (hm : it ∈ s) : getS s it.key = some it.val := by
  induction s with
  | nil => simp at hm
  | cons x s ih =>
    obtain ⟨p1, p2⟩ := List.pairwise_cons.1 h
    rcases List.mem_cons.1 hm with rfl | hm
    · simp [getS, eqB_self]
    · have := p1 it hm
      have he : eqB x.key it.key = false := eqB_false this
      have := ih p2 hm
      simp only [getS, List.find?_cons, he] at this ⊢
      exact this
theorem get_mem {s : Sto} (h : stoB s = true) {it : Item} (hm : it ∈ s) : getS s it.key = some it.val := sorted_get (sto_sorted h) hm
theorem sto_ext {a b : Sto} (ha : stoB a = true) (hb : stoB b = true) (h : ∀ k, getS a k = getS b k) : a = b := by
  refine sorted_ext (R := fun x y : Item => ltB x.key y.key = true) (fun x => by simp [ltB_irr]) (fun x y h => by rw [ltB_asym h]; simp) (sto_sorted ha) (sto_sorted hb) fun x => ⟨fun hx => ?_, fun hx => ?_⟩
  · have h1 := get_mem ha hx
    rw [h] at h1
    obtain ⟨it, m1, m2, m3⟩ := get_some h1
    have : it = x := by cases it; cases x; simp_all
    exact this ▸ m1
  · have h1 := get_mem hb hx
    rw [← h] at h1
    obtain ⟨it, m1, m2, m3⟩ := get_some h1
    have : it = x := by cases it; cases x; simp_all
    exact this ▸ m1
/-- What is found of a name behind writes. -/
def putK (k : ByteArray) (v : Option (List Int)) (w : Wrt) : Option (List Int) := if k = w.key then (if w.del = true then none else some w.val) else v
def putsK (ws : List Wrt) (k : ByteArray) (v : Option (List Int)) : Option (List Int) := ws.foldl (putK k) v
theorem puts_no {ws : List Wrt} {k : ByteArray} (h : ∀ w ∈ ws, w.key ≠ k) (v : Option (List Int)) : putsK ws k v = v := by
  induction ws generalizing v with
  | nil => rfl
  | cons w ws ih =>
    simp only [putsK, List.foldl_cons]
    have : putK k v w = v := by simp [putK, Ne.symm (h w (by simp))]
    rw [this]
    exact ih (fun w hw => h w (by simp [hw])) v
theorem puts_any {ws : List Wrt} {k : ByteArray} (h : ∃ w ∈ ws, w.key = k) (v u : Option (List Int)) : putsK ws k v = putsK ws k u := by
  induction ws generalizing v u with
  | nil => simp at h
  | cons w ws ih =>
    simp only [putsK, List.foldl_cons]
    by_cases e : w.key = k
    · subst e
      simp [putK]
    · have h2 : ∃ w ∈ ws, w.key = k := by
        obtain ⟨u, hu, e2⟩ := h
        rcases List.mem_cons.1 hu with rfl | hu
        · exact absurd e2 e
        · exact ⟨u, hu, e2⟩
      exact ih h2 _ _
theorem puts_mem {ws : List Wrt} {k : ByteArray} (h : ∃ w ∈ ws, w.key = k) (v : Option (List Int)) : ∃ w ∈ ws, w.key = k ∧ putsK ws k v = if w.del = true then none else some w.val := by
  induction ws generalizing v with
  | nil => simp at h
  | cons w ws ih =>
    by_cases h2 : ∃ w ∈ ws, w.key = k
    · obtain ⟨u, h3, h4, h5⟩ := ih h2 (putK k v w)
      exact ⟨u, by simp [h3], h4, by simpa [putsK] using h5⟩
    · obtain ⟨u, hu, e2⟩ := h
      rcases List.mem_cons.1 hu with rfl | hu
      · refine ⟨_, by simp, e2, ?_⟩
        simp only [putsK, List.foldl_cons]
        have := puts_no (ws := ws) (k := k) (fun w hw e => h2 ⟨w, hw, e⟩) (putK k v u)
        simp only [putsK] at this
        rw [this, putK, if_pos e2.symm]
      · exact absurd ⟨u, hu, e2⟩ h2
/-- Writes that a store has room for, one behind the other. -/
def room : Sto → List Wrt → Prop
  | _, [] => True
  | s, w :: ws => (writeI s w).length ≤ 40 ∧ room (writeI s w) ws
theorem doS_cons' {s : Sto} {w : Wrt} {ws : List Wrt} (hs : stoB s = true) (hw : wrtB w = true) (hl : (writeI s w).length ≤ 40) : doS s (w :: ws) = doS (writeI s w) ws := by
  have h3 := write_sto hs hw hl
  simp only [doS, hs, h3, cond_true]
  rw [doL, hw, write_eq hs]
  have : decide (40 < (writeI s w).length) = false := decide_eq_false (by omega)
  rw [this]; rfl
theorem room_len : ∀ {ws : List Wrt} {s : Sto}, s.length + ws.length ≤ 40 → room s ws
  | [], _, _ => trivial
  | w :: ws, s, h => by
    simp only [List.length_cons] at h
    have := writeI_len s w
    exact ⟨by omega, room_len (by omega)⟩
theorem room_plc {p : Int} (hp : p = 1 ∨ p = 2) : ∀ {ws : List Wrt} {s : Sto}, plcB p s = true → (∀ w ∈ ws, wrtB w = true) → fitsW p ws → room s ws
  | [], _, _, _, _ => trivial
  | w :: ws, s, h, hw, hf => by
    have h1 := writeI_len s w
    have h2 := plc_len h hp
    have h3 : (writeI s w).length ≤ 40 := by split at h2 <;> omega
    obtain ⟨p1, p2, p3⟩ := plc_parts.1 h
    refine ⟨h3, room_plc hp (plc_parts.2 ⟨p1, write_sto p2 (hw w (by simp)) h3, fun x hx => ?_⟩) (fun w hw' => hw w (by simp [hw'])) (fun w hw' => hf w (by simp [hw']))⟩
    rcases writeI_mem hx with hx | ⟨hdel, rfl⟩
    · exact p3 x hx
    · exact hf w (by simp) hdel
theorem do_get : ∀ {ws : List Wrt} {s : Sto}, stoB s = true → (∀ w ∈ ws, wrtB w = true) → room s ws → stoB (doS s ws) = true ∧ ∀ k, getS (doS s ws) k = putsK ws k (getS s k)
  | [], s, hs, _, _ => by rw [doS_nil hs]; exact ⟨hs, fun _ => rfl⟩
  | w :: ws, s, hs, hw, hl => by
    have hwb := hw w (by simp)
    rw [doS_cons' hs hwb hl.1]
    obtain ⟨g1, g2⟩ := do_get (ws := ws) (write_sto hs hwb hl.1) (fun w hw' => hw w (by simp [hw'])) hl.2
    refine ⟨g1, fun k => ?_⟩
    rw [g2, get_write hs]
    simp only [putsK, List.foldl_cons, putK]
theorem do_comm {s : Sto} {a b : List Wrt} (hs : stoB s = true) (ha : ∀ w ∈ a, wrtB w = true) (hb : ∀ w ∈ b, wrtB w = true) (r1 : room s a) (r2 : room s b) (r3 : room (doS s a) b) (r4 : room (doS s b) a) (hd : ∀ w ∈ a, ∀ u ∈ b, w.key ≠ u.key) :
    doS (doS s a) b = doS (doS s b) a := by
  obtain ⟨a1, a2⟩ := do_get hs ha r1
  obtain ⟨b1, b2⟩ := do_get hs hb r2
  obtain ⟨c1, c2⟩ := do_get a1 hb r3
  obtain ⟨d1, d2⟩ := do_get b1 ha r4
  refine sto_ext c1 d1 fun k => ?_
  rw [c2, d2, a2, b2]
  by_cases h1 : ∃ w ∈ a, w.key = k
  · obtain ⟨w, hw, rfl⟩ := h1
    rw [puts_no (ws := b) fun u hu e => hd w hw u hu e.symm, puts_no (ws := b) fun u hu e => hd w hw u hu e.symm]
  · rw [puts_no (ws := a) (fun u hu e => h1 ⟨u, hu, e⟩), puts_no (ws := a) (fun u hu e => h1 ⟨u, hu, e⟩)]
theorem kd_inj {c : UInt8} {m n : Int} (hm : 0 ≤ m ∧ m ≤ 9) (hn : 0 ≤ n ∧ n ≤ 9) (h : kd c m = kd c n) : m = n := by
  rw [kd_eq, kd_eq] at h
  have h := congrArg (fun x : ByteArray => byteAt x 1) h
  simp only [at1] at h
  have e1 : (UInt8.ofNat (48 + m.toNat)).toNat = 48 + m.toNat := by rw [UInt8.toNat_ofNat']; omega
  have e2 : (UInt8.ofNat (48 + n.toNat)).toNat = 48 + n.toNat := by rw [UInt8.toNat_ofNat']; omega
  omega
theorem kd_ne' {c d : UInt8} (h : c ≠ d) (m n : Int) : kd c m ≠ kd d n := fun e => h (by
  have : byteAt (kd c m) 0 = byteAt (kd d n) 0 := by rw [e]
  rw [kd_at, kd_at] at this
  exact UInt8.toNat_inj.1 (by omega))
theorem plan_keys {p : Int} {s : Sto} (h : plcB p s = true) {o : Opr} (ho : opOk o = true) (tx : Int) :
    (planP p s tx o).locks.Nodup ∧ ∀ w ∈ (planP p s tx o).writes, w.key ∈ (planP p s tx o).locks := by
  have cf := kd_ne' (c := 99) (d := 102) (by decide) o.code o.fam
  obtain ⟨h1, h2, h3⟩ := plc_parts.1 h
  simp only [planP, inP, mayP, tradeP, nextP, outP]
  repeat' split
  all_goals try (simp [noP, cf, kd_ne' (c := 99) (d := 117) (by decide), kd_ne' (c := 102) (d := 117) (by decide)]; done)
  · refine ⟨List.nodup_cons.2 ⟨fun hm => ?_, ?_⟩, fun w hw => ?_⟩
    · obtain ⟨it, hm, e⟩ := List.mem_map.1 hm
      have hi := (List.mem_filter.1 hm).2
      simp only [outI, Bool.and_eq_true, beq_iff_eq] at hi
      have := hi.1.1
      rw [e, kd_at] at this
      exact absurd this (by decide)
    · have := (sto_sorted h2).filter (outI o)
      rw [List.nodup_iff_pairwise_ne, List.pairwise_map]
      exact this.imp fun h e => by rw [e, ltB_irr] at h; cases h
    · obtain ⟨it, hm, rfl⟩ := List.mem_map.1 hw
      exact List.mem_cons_of_mem _ (List.mem_map.2 ⟨it, hm, rfl⟩)
theorem plan_same {p : Int} {s x : Sto} {tx : Int} {o : Opr} (h : (planP p s tx o).ok = true) (hg : ∀ k ∈ (planP p s tx o).locks, getS x k = getS s k) (hf : p = 2 → o.kind ≠ 2 → o.kind ≠ 3 → o.kind ≠ 4 → x.filter (outI o) = s.filter (outI o)) :
    planP p x tx o = planP p s tx o := by
  have hv : ∀ {k}, getS x k = getS s k → hasV x k = hasV s k ∧ getV x k = getV s k := fun e => by simp only [hasV, getV, e, and_self]
  simp only [planP] at h hg ⊢
  by_cases h1 : p = 1
  · simp only [h1, if_true, inP] at h hg ⊢
    have e : getS x (kd 115 o.inn) = getS s (kd 115 o.inn) := hg _ (by repeat' split
                                                                       all_goals simp [noP])
    obtain ⟨e1, e2⟩ := hv e
    rw [e1, e2]
  simp only [h1, if_false] at h hg ⊢
  by_cases h2 : p = 2
  · simp only [h2, if_true, mayP] at h hg ⊢
    by_cases k2 : o.kind = 2
    · simp only [k2, if_true] at h hg ⊢
      have e : getS x (kd 99 o.code) = getS s (kd 99 o.code) := hg _ (by split <;> simp [noP])
      rw [(hv e).1]
    simp only [k2, if_false] at h hg ⊢
    by_cases k3 : o.kind = 3
    · simp only [k3, if_true, tradeP] at h hg ⊢
      have e : getS x (kd 99 o.code) = getS s (kd 99 o.code) := hg _ (by split <;> simp [noP])
      have e' : getS x (kd 102 o.fam) = getS s (kd 102 o.fam) := hg _ (by split <;> simp [noP])
      rw [(hv e).1, (hv e).2, (hv e').1]
    simp only [k3, if_false] at h hg ⊢
    by_cases k4 : o.kind = 4
    · simp only [k4, if_true, nextP] at h hg ⊢
      have e' : getS x (kd 102 o.fam) = getS s (kd 102 o.fam) := hg _ (by split <;> simp [noP])
      rw [(hv e').1, (hv e').2]
    simp only [k4, if_false, outP] at h hg ⊢
    rw [hf h2 k2 k3 k4]
  simp only [h2, if_false] at h hg ⊢
  have e : getS x (⟨#[97]⟩ ++ natS tx.toNat) = getS s (⟨#[97]⟩ ++ natS tx.toNat) := hg _ (by split <;> simp [noP])
  rw [(hv e).1]
/-- A family that is written is of one whose name is held. -/
theorem fam_lock {s : Sto} {tx : Int} {o : Opr} {w : Wrt} (hw : w ∈ (planP 2 s tx o).writes) (hd : w.del = false) (hf : byteAt w.key 0 = 102) : kd 117 (w.val.getD 0 0) ∈ (planP 2 s tx o).locks := by
  simp only [planP, mayP, tradeP, nextP, outP, show ¬ (2 : Int) = 1 by decide, if_false, if_true] at hw ⊢
  by_cases k2 : o.kind = 2
  · simp only [k2, if_true] at hw ⊢
    split at hw
    · simp [noP] at hw
    · simp at hw; subst hw; rw [kd_at] at hf; cases hf
  simp only [k2, if_false] at hw ⊢
  by_cases k3 : o.kind = 3
  · simp only [k3, if_true] at hw ⊢
    split at hw
    · rename_i h
      simp only [h, and_self, if_true]
      simp at hw
      rcases hw with rfl | rfl
      · cases hd
      · simp
    · simp [noP] at hw
  simp only [k3, if_false] at hw ⊢
  by_cases k4 : o.kind = 4
  · simp only [k4, if_true] at hw ⊢
    split at hw
    · simp [noP] at hw
    · rename_i h
      rw [if_neg h]
      simp only [List.mem_singleton] at hw
      subst hw
      have : ((if o.gen < (getV s (kd 102 o.fam)).getD 1 0 then [(getV s (kd 102 o.fam)).getD 0 0, (getV s (kd 102 o.fam)).getD 1 0, 0] else [(getV s (kd 102 o.fam)).getD 0 0, (getV s (kd 102 o.fam)).getD 1 0 + 1, 1]) : List Int).getD 0 0 = (getV s (kd 102 o.fam)).getD 0 0 := by split <;> rfl
      simp only [this]
      simp
  simp only [k4, if_false] at hw ⊢
  obtain ⟨it, hm, rfl⟩ := List.mem_map.1 hw
  have hi := (List.mem_filter.1 hm).2
  simp only [outI, Bool.and_eq_true, beq_iff_eq] at hi
  have : (outW it).val.getD 0 0 = o.who := hi.1.2
  rw [this]; simp
theorem out_same {s : Sto} {ws : List Wrt} {o : Opr} (hs : stoB s = true) (hw : ∀ w ∈ ws, wrtB w = true) (hl : room s ws) (h1 : ∀ w ∈ ws, w.del = false → byteAt w.key 0 = 102 → w.val.getD 0 0 ≠ o.who)
    (h2 : ∀ it ∈ s, outI o it = true → ∀ w ∈ ws, w.key ≠ it.key) : (doS s ws).filter (outI o) = s.filter (outI o) := by
  obtain ⟨g1, g2⟩ := do_get hs hw hl
  refine sorted_ext (R := fun x y : Item => ltB x.key y.key = true) (fun x => by simp [ltB_irr]) (fun x y h => by rw [ltB_asym h]; simp) ((sto_sorted g1).filter _) ((sto_sorted hs).filter _) fun it => ⟨fun hx => ?_, fun hx => ?_⟩
  · obtain ⟨m1, m2⟩ := List.mem_filter.1 hx
    have e := get_mem g1 m1
    rw [g2] at e
    by_cases hh : ∃ w ∈ ws, w.key = it.key
    · obtain ⟨w, w1, w2, w3⟩ := puts_mem hh (getS s it.key)
      rw [w3] at e
      split at e
      · cases e
      · rename_i hd
        simp only [outI, Bool.and_eq_true, beq_iff_eq] at m2
        injection e with e
        exact absurd (e ▸ m2.1.2) (h1 w w1 (by simpa using hd) (w2 ▸ m2.1.1))
    · rw [puts_no (fun w hw e => hh ⟨w, hw, e⟩)] at e
      obtain ⟨it', n1, n2, n3⟩ := get_some e
      have : it' = it := by cases it; cases it'; simp_all
      exact List.mem_filter.2 ⟨this ▸ n1, m2⟩
  · obtain ⟨m1, m2⟩ := List.mem_filter.1 hx
    have e : getS (doS s ws) it.key = some it.val := by rw [g2, puts_no (h2 it m1 m2)]; exact get_mem hs m1
    obtain ⟨it', n1, n2, n3⟩ := get_some e
    have : it' = it := by cases it; cases it'; simp_all
    exact List.mem_filter.2 ⟨this ▸ n1, m2⟩
/-- A plan hangs on nothing that it does not hold: what is written of other names, by one who holds them, does not turn it. -/
theorem plan_held {p : Int} {s : Sto} (h : plcB p s = true) {tx tx' : Int} {o q : Opr} (ho : opOk o = true) (hq : opOk q = true) (ht' : 0 ≤ tx' ∧ tx' ≤ 29) (hl : room s (planP p s tx' q).writes)
    (hok : (planP p s tx o).ok = true) (hd : ∀ k ∈ (planP p s tx o).locks, k ∉ (planP p s tx' q).locks) : planP p (doS s (planP p s tx' q).writes) tx o = planP p s tx o := by
  have hs := plc_sto h
  have hw := plan_wrt h hq ht'
  obtain ⟨q1, q2⟩ := plan_keys h hq tx'
  obtain ⟨g1, g2⟩ := do_get hs hw hl
  refine plan_same hok (fun k hk => ?_) (fun hp k2 k3 k4 => ?_)
  · rw [g2, puts_no fun w hw' e => hd k hk (by rw [← e]; exact q2 w hw')]
  · subst hp
    have eo : planP 2 s tx o = outP s o := by simp [planP, mayP, k2, k3, k4]
    refine out_same hs hw hl (fun w hw' hdel hf e => ?_) (fun it hm hi w hw' e => ?_)
    · have := fam_lock hw' hdel hf
      rw [e] at this
      exact hd (kd 117 o.who) (by rw [eo]; simp [outP]) this
    · have := q2 w hw'
      rw [e] at this
      exact hd it.key (by rw [eo]; simp only [outP]; exact List.mem_cons_of_mem _ (List.mem_map.2 ⟨it, List.mem_filter.2 ⟨hm, hi⟩, rfl⟩)) this
/-- Whether a place has room for what it plans: places 1 and 2 always have, place 3 below 40 things. -/
theorem plan_room {p : Int} {s x : Sto} (h : plcB p s = true) (hx : plcB p x = true) {tx : Int} {o : Opr} (ho : opOk o = true) (hk : p = 2 → o.kind ≠ 1) (ht : 0 ≤ tx ∧ tx ≤ 29) (hl : p = 3 → x.length < 40) : room x (planP p s tx o).writes := by
  have hp : p = 1 ∨ p = 2 ∨ p = 3 := by have := (plc_parts.1 h).1; simp [inR] at this; omega
  have hw := plan_wrt h ho ht
  have hf := plan_fits h ho hk tx
  rcases hp with e | e | e
  · exact room_plc (.inl e) hx hw hf
  · exact room_plc (.inr e) hx hw hf
  · have : (planP p s tx o).writes.length ≤ 1 := by
      subst e
      simp only [planP, show ¬ (3 : Int) = 1 by decide, show ¬ (3 : Int) = 2 by decide, if_false]
      split <;> simp [noP]
    exact room_len (by have := hl e; omega)
/-- Two plans of names apart: each is as it was behind the other, and it makes no difference which is first. -/
theorem plans_apart {p : Int} {s : Sto} (h : plcB p s = true) {tx tx' : Int} {o q : Opr} (ho : opOk o = true) (hq : opOk q = true) (ht : 0 ≤ tx ∧ tx ≤ 29) (ht' : 0 ≤ tx' ∧ tx' ≤ 29) (hk : p = 2 → o.kind ≠ 1) (hk' : p = 2 → q.kind ≠ 1)
    (hl : p = 3 → s.length ≤ 38) (hok : (planP p s tx o).ok = true) (hok' : (planP p s tx' q).ok = true) (hd : ∀ k ∈ (planP p s tx o).locks, k ∉ (planP p s tx' q).locks) :
    planP p (doS s (planP p s tx' q).writes) tx o = planP p s tx o ∧ planP p (doS s (planP p s tx o).writes) tx' q = planP p s tx' q ∧
      doS (doS s (planP p s tx' q).writes) (planP p s tx o).writes = doS (doS s (planP p s tx o).writes) (planP p s tx' q).writes := by
  have hs := plc_sto h
  have c1 := plc_do h (plan_fits h ho hk tx)
  have c2 := plc_do h (plan_fits h hq hk' tx')
  have w1 : p = 3 → (planP p s tx o).writes.length ≤ 1 := fun e => by
    subst e
    simp only [planP, show ¬ (3 : Int) = 1 by decide, show ¬ (3 : Int) = 2 by decide, if_false]
    split <;> simp [noP]
  have w2 : p = 3 → (planP p s tx' q).writes.length ≤ 1 := fun e => by
    subst e
    simp only [planP, show ¬ (3 : Int) = 1 by decide, show ¬ (3 : Int) = 2 by decide, if_false]
    split <;> simp [noP]
  have d1 := doS_len (planP p s tx o).writes s
  have d2 := doS_len (planP p s tx' q).writes s
  have r1 := plan_room h h ho hk ht (fun e => by have := hl e; omega)
  have r2 := plan_room h h hq hk' ht' (fun e => by have := hl e; omega)
  have r3 := plan_room h c1 hq hk' ht' (fun e => by have := hl e; have := w1 e; omega)
  have r4 := plan_room h c2 ho hk ht (fun e => by have := hl e; have := w2 e; omega)
  refine ⟨plan_held h ho hq ht' r2 hok hd, plan_held h hq ho ht r1 hok' (fun k h1 h2 => hd k h2 h1), ?_⟩
  refine do_comm hs (plan_wrt h hq ht') (plan_wrt h ho ht) r2 r1 r4 r3 fun w hw u hu e => ?_
  exact hd u.key ((plan_keys h ho tx).2 u hu) (e ▸ (plan_keys h hq tx').2 w hw)
end Go.Proofs.AI

namespace Go.Proofs.AI
open Go.RowKit Go.Proofs
set_option linter.unusedVariables false
set_option linter.unusedSimpArgs false
set_option maxRecDepth 100000
theorem wrt_ext {a b : Wrt} (h1 : a.key = b.key) (h2 : a.del = b.del) (h3 : a.val = b.val) : a = b := by cases a; cases b; simp_all
theorem any_flip (o : Opr) (p : Int) : ((placesL o).any fun x => x == p) = (placesL o).any fun x => p == x := by
  congr 1; funext x; rw [Bool.eq_iff_iff]; simp; exact eq_comm
theorem laws_jaTexts_ok (a : List ByteArray) (b : List ByteArray) : FunOK Tryz.prog 62 2 [] [(0, k1 (sS a)), (1, k1 (sS b))] (· = [(2, kB (decide (a = b)))]) := by
  refine fun_to (E := ⟨tab, ctOf [], 26, [], [(0, [0, 1]), (1, [0, 1, 10]), (2, [4]), (3, [0, 1, 5]), (4, [0, 1, 5, 14]), (5, [0, 1, 5]), (6, [0, 1, 5, 25]), (7, [4]), (8, [4])], [(0, ⟨Nat, fun x => [(0, ⟨.one, [.c (.sh 9 (typ ByteArray.empty eS a))], []⟩), (1, ⟨.one, [.c (.sh 9 (typ ByteArray.empty eS b))], []⟩), (5, ⟨.one, [.c (.n IntKind.i64 (x : Int))], []⟩)]⟩)], [], [], []⟩) tab_ok mixed Tryz.func62 rfl Tryz.ntmps62 (rvs := [.tmp 4]) Tryz.results62 rfl fun hl => ?_
  refine cast (show ((((↑a.length : Int) != (↑b.length : Int)) = true → false = decide (a = b)) ∧ (((↑a.length : Int) != (↑b.length : Int)) = false → ∃ (pre : Nat → Prop), ∃ (μ : Nat → Nat), ∃ (x0 : Nat), (cnRs (typ ByteArray.empty eS a) = cnRs (typ ByteArray.empty eS a) ∧ cnRs (typ ByteArray.empty eS b) = cnRs (typ ByteArray.empty eS b) ∧ (0 : Int) = (↑x0 : Int)) ∧ pre x0 ∧ ∀ (x : Nat), pre x → (decide ((↑x : Int) < (↑a.length : Int)) = true → ((0 : Int) ≤ (↑x : Int) ∧ (↑x : Int) < (↑a.length : Int)) ∧ ((0 : Int) ≤ (↑x : Int) ∧ (↑x : Int) < (↑b.length : Int)) ∧ ((!(a.getD (↑x : Int).toNat ByteArray.empty).toList == (b.getD (↑x : Int).toNat ByteArray.empty).toList) = true → false = decide (a = b)) ∧ ((!(a.getD (↑x : Int).toNat ByteArray.empty).toList == (b.getD (↑x : Int).toNat ByteArray.empty).toList) = false → ∃ (y : Nat), (cnRs (typ ByteArray.empty eS a) = cnRs (typ ByteArray.empty eS a) ∧ cnRs (typ ByteArray.empty eS b) = cnRs (typ ByteArray.empty eS b) ∧ IntKind.i64.wrap ((↑x : Int) + (1 : Int)) = (↑y : Int)) ∧ pre y ∧ μ y < μ x)) ∧ (decide ((↑x : Int) < (↑a.length : Int)) = false → true = decide (a = b)))) = _ by kernel_rfl) ?_
  have hx : a.length ≤ 9223372036854775807 := hl.1 _ (List.mem_singleton.2 rfl)
  simp only [cU, eU_iff, Prod.exists, Int.natCast_inj, and_assoc, exists_eq_left', exists_and_left, true_and, and_true, implies_true, and_self, bne_iff_ne, beq_iff_eq, beq_eq_false_iff_ne, ne_eq, forall_eq, Prod.forall, fi_eI, fi_eS, cI, nI_iff, cI_app, cItemO, cItemS, nItemO_iff, nItemS_iff, cWrtO, cWrtS, nWrtO_iff, nWrtS_iff, cStoO, cStoS, nStoO_iff, nStoS_iff, fItemO, fItemS, fWrtO, fWrtS, fStoO, fStoS, fI, frz_app, cWrtO_app, cWrtS_app, cWrtO_1, cItemO_1, opr_ex, zcast, cnRs_raw, cnRs_nil, frz_nil, nil_map, List.map_nil, Int.toNat_natCast, Bool.not_eq_true, Bool.not_eq_false, decide_eq_true_eq, decide_eq_false_iff_not, gt_iff_lt]
  refine ⟨fun h => ?_, fun h => ?_⟩
  · exact (decide_eq_false fun he => h (by rw [he])).symm
  have hlen := len_ne h
  refine ⟨fun i => i ≤ a.length ∧ ∀ j, j < i → a.getD j ByteArray.empty = b.getD j ByteArray.empty, ⟨by omega, fun j hj => absurd hj (Nat.not_lt_zero _)⟩, fun i => a.length - i, fun i hp => ?_⟩
  obtain ⟨h1, h2⟩ := hp
  refine ⟨fun hlt => ⟨by omega, hlt, by omega, by omega, fun e => ?_, fun e => ⟨i + 1, wrapN (by omega), ⟨by omega, below_succ h2 ?_⟩, by simp only; omega⟩⟩, fun hge => ?_⟩
  · rw [tl_eq] at e
    have e : ¬ a.getD i ByteArray.empty = b.getD i ByteArray.empty := by simpa using e
    exact (decide_eq_false fun he => e (by rw [he])).symm
  · rw [tl_eq] at e
    simpa using e
  · exact (decide_eq_true (ext_getD (d := ByteArray.empty) hlen fun j hj => h2 j (by omega))).symm
def laws_jaTexts_c : Con Tryz.prog := ⟨62, 2, [.lend, .lend], [], List ByteArray × List ByteArray, none, fun b => [(0, k1 (sS b.1)), (1, k1 (sS b.2))], fun b => [(2, kB (decide (b.1 = b.2)))], [], fun b h => laws_jaTexts_ok (b.1) (b.2)⟩
theorem laws_jaWrites_ok (a : List Wrt) (b : List Wrt) : FunOK Tryz.prog 63 2 [] [(0, k1 (sWrts a)), (1, k1 (sWrts b))] (· = [(2, kB (decide (a = b)))]) := by
  refine fun_to (E := ⟨tab, ctOf [laws_jaInts_c], 55, [], [(0, [0, 1]), (1, [0, 1, 10]), (2, [4]), (3, [0, 1, 5]), (4, [0, 1, 5, 14]), (5, [0, 1, 5]), (6, [0, 1, 5, 54]), (7, [4]), (8, [4])], [(0, ⟨Nat, fun x => [(0, ⟨.one, [.c (.sh 55 (typ dWrt eWrtS a))], []⟩), (1, ⟨.one, [.c (.sh 55 (typ dWrt eWrtS b))], []⟩), (5, ⟨.one, [.c (.n IntKind.i64 (x : Int))], []⟩)]⟩)], [], [], []⟩) tab_ok mixed Tryz.func63 rfl Tryz.ntmps63 (rvs := [.tmp 4]) Tryz.results63 rfl fun hl => ?_
  refine cast (show ((((↑a.length : Int) != (↑b.length : Int)) = true → false = decide (a = b)) ∧ (((↑a.length : Int) != (↑b.length : Int)) = false → ∃ (pre : Nat → Prop), ∃ (μ : Nat → Nat), ∃ (x0 : Nat), (cnRs (typ dWrt eWrtS a) = cnRs (typ dWrt eWrtS a) ∧ cnRs (typ dWrt eWrtS b) = cnRs (typ dWrt eWrtS b) ∧ (0 : Int) = (↑x0 : Int)) ∧ pre x0 ∧ ∀ (x : Nat), pre x → (decide ((↑x : Int) < (↑a.length : Int)) = true → ((0 : Int) ≤ (↑x : Int) ∧ (↑x : Int) < (↑a.length : Int)) ∧ ((0 : Int) ≤ (↑x : Int) ∧ (↑x : Int) < (↑b.length : Int)) ∧ ((!(a.getD (↑x : Int).toNat dWrt).key.toList == (b.getD (↑x : Int).toNat dWrt).key.toList) = false → ((0 : Int) ≤ (↑x : Int) ∧ (↑x : Int) < (↑a.length : Int)) ∧ ((0 : Int) ≤ (↑x : Int) ∧ (↑x : Int) < (↑b.length : Int)) ∧ ((if true = true then !(a.getD (↑x : Int).toNat dWrt).del == (b.getD (↑x : Int).toNat dWrt).del else (a.getD (↑x : Int).toNat dWrt).del == (b.getD (↑x : Int).toNat dWrt).del) = false → ((0 : Int) ≤ (↑x : Int) ∧ (↑x : Int) < (↑a.length : Int)) ∧ ((0 : Int) ≤ (↑x : Int) ∧ (↑x : Int) < (↑b.length : Int)) ∧ ∃ (b_1 : List Int × List Int), (cnRs (typ (0 : Int) eI (a.getD (↑x : Int).toNat dWrt).val) = cnRs (typ (0 : Int) eI b_1.1) ∧ cnRs (typ (0 : Int) eI (b.getD (↑x : Int).toNat dWrt).val) = cnRs (typ (0 : Int) eI b_1.2)) ∧ ((!decide (b_1.1 = b_1.2)) = true → false = decide (a = b)) ∧ ((!decide (b_1.1 = b_1.2)) = false → ∃ (y : Nat), (cnRs (typ dWrt eWrtS a) = cnRs (typ dWrt eWrtS a) ∧ cnRs (typ dWrt eWrtS b) = cnRs (typ dWrt eWrtS b) ∧ IntKind.i64.wrap ((↑x : Int) + (1 : Int)) = (↑y : Int)) ∧ pre y ∧ μ y < μ x)) ∧ ((if true = true then !(a.getD (↑x : Int).toNat dWrt).del == (b.getD (↑x : Int).toNat dWrt).del else (a.getD (↑x : Int).toNat dWrt).del == (b.getD (↑x : Int).toNat dWrt).del) = true → false = decide (a = b))) ∧ ((!(a.getD (↑x : Int).toNat dWrt).key.toList == (b.getD (↑x : Int).toNat dWrt).key.toList) = true → false = decide (a = b))) ∧ (decide ((↑x : Int) < (↑a.length : Int)) = false → true = decide (a = b)))) = _ by kernel_rfl) ?_
  have hx : a.length ≤ 9223372036854775807 := hl.1 _ (List.mem_singleton.2 rfl)
  simp only [cU, eU_iff, Prod.exists, Int.natCast_inj, and_assoc, exists_eq_left', exists_and_left, true_and, and_true, implies_true, and_self, bne_iff_ne, beq_iff_eq, beq_eq_false_iff_ne, ne_eq, forall_eq, Prod.forall, fi_eI, fi_eS, cI, nI_iff, cI_app, cItemO, cItemS, nItemO_iff, nItemS_iff, cWrtO, cWrtS, nWrtO_iff, nWrtS_iff, cStoO, cStoS, nStoO_iff, nStoS_iff, fItemO, fItemS, fWrtO, fWrtS, fStoO, fStoS, fI, frz_app, cWrtO_app, cWrtS_app, cWrtO_1, cItemO_1, opr_ex, zcast, cnRs_raw, cnRs_nil, frz_nil, nil_map, List.map_nil, Int.toNat_natCast, Bool.not_eq_true, Bool.not_eq_false, decide_eq_true_eq, decide_eq_false_iff_not, gt_iff_lt]
  refine ⟨fun h => ?_, fun h => ?_⟩
  · exact (decide_eq_false fun he => h (by rw [he])).symm
  have hlen := len_ne h
  simp only [i1, if_true]
  refine ⟨fun i => i ≤ a.length ∧ ∀ j, j < i → a.getD j dWrt = b.getD j dWrt, ⟨by omega, fun j hj => absurd hj (Nat.not_lt_zero _)⟩, fun i => a.length - i, fun i hp => ?_⟩
  obtain ⟨h1, h2⟩ := hp
  refine ⟨fun hlt => ⟨by omega, hlt, by omega, by omega, fun e1 => ⟨by omega, hlt, by omega, by omega, fun e2 => ⟨by omega, hlt, by omega, by omega, fun e3 => ?_, fun e3 => ⟨i + 1, wrapN (by omega), ⟨by omega, below_succ h2 ?_⟩, by simp only; omega⟩⟩, fun e2 => ?_⟩, fun e1 => ?_⟩, fun hge => ?_⟩
  · have e : ¬ (a.getD i dWrt).val = (b.getD i dWrt).val := by simpa using e3
    exact (decide_eq_false fun he => e (by rw [he])).symm
  · rw [tl_eq] at e1
    exact wrt_ext (by simpa using e1) (by simpa using e2) (by simpa using e3)
  · have e : ¬ (a.getD i dWrt).del = (b.getD i dWrt).del := by simpa using e2
    exact (decide_eq_false fun he => e (by rw [he])).symm
  · rw [tl_eq] at e1
    have e : ¬ (a.getD i dWrt).key = (b.getD i dWrt).key := by simpa using e1
    exact (decide_eq_false fun he => e (by rw [he])).symm
  · exact (decide_eq_true (ext_getD (d := dWrt) hlen fun j hj => h2 j (by omega))).symm
def laws_jaWrites_c : Con Tryz.prog := ⟨63, 2, [.lend, .lend], [], List Wrt × List Wrt, none, fun b => [(0, k1 (sWrts b.1)), (1, k1 (sWrts b.2))], fun b => [(2, kB (decide (b.1 = b.2)))], [], fun b h => laws_jaWrites_ok (b.1) (b.2)⟩
theorem spec_l3Has_ok (xs : List Int) (n : Int) : FunOK Tryz.prog 64 2 [] [(0, k1 (sI xs)), (1, kI n)] (· = [(2, kB (xs.any fun x => x == n))]) := by
  refine fun_to (E := ⟨tab, ctOf [], 18, [], [(0, [0, 1]), (1, [0, 1, 5]), (2, [0, 1, 5, 9]), (3, [0, 1, 5]), (4, [0, 1, 5, 17]), (5, [4]), (6, [4])], [(0, ⟨Nat, fun x => [(0, ⟨.one, [.c (.sh 3 (typ (0 : Int) eI xs))], []⟩), (1, ⟨.one, [.c (.n IntKind.i64 n)], []⟩), (5, ⟨.one, [.c (.n IntKind.i64 (x : Int))], []⟩)]⟩)], [], [], []⟩) tab_ok mixed Tryz.func64 rfl Tryz.ntmps64 (rvs := [.tmp 4]) Tryz.results64 rfl fun hl => ?_
  refine cast (show (∃ (pre : Nat → Prop), ∃ (μ : Nat → Nat), ∃ (x0 : Nat), (cnRs (typ (0 : Int) eI xs) = cnRs (typ (0 : Int) eI xs) ∧ n = n ∧ (0 : Int) = (↑x0 : Int)) ∧ pre x0 ∧ ∀ (x : Nat), pre x → (decide ((↑x : Int) < (↑xs.length : Int)) = true → ((0 : Int) ≤ (↑x : Int) ∧ (↑x : Int) < (↑xs.length : Int)) ∧ ((xs.getD (↑x : Int).toNat (0 : Int) == n) = true → true = xs.any fun (x : Int) => x == n) ∧ ((xs.getD (↑x : Int).toNat (0 : Int) == n) = false → ∃ (y : Nat), (cnRs (typ (0 : Int) eI xs) = cnRs (typ (0 : Int) eI xs) ∧ n = n ∧ IntKind.i64.wrap ((↑x : Int) + (1 : Int)) = (↑y : Int)) ∧ pre y ∧ μ y < μ x)) ∧ (decide ((↑x : Int) < (↑xs.length : Int)) = false → false = xs.any fun (x : Int) => x == n)) = _ by kernel_rfl) ?_
  have hx : xs.length ≤ 9223372036854775807 := hl.1 _ (List.mem_singleton.2 rfl)
  simp only [cU, eU_iff, Prod.exists, Int.natCast_inj, and_assoc, exists_eq_left', exists_and_left, true_and, and_true, implies_true, and_self, bne_iff_ne, beq_iff_eq, beq_eq_false_iff_ne, ne_eq, forall_eq, Prod.forall, fi_eI, fi_eS, cI, nI_iff, cI_app, cItemO, cItemS, nItemO_iff, nItemS_iff, cWrtO, cWrtS, nWrtO_iff, nWrtS_iff, cStoO, cStoS, nStoO_iff, nStoS_iff, fItemO, fItemS, fWrtO, fWrtS, fStoO, fStoS, fI, frz_app, cWrtO_app, cWrtS_app, cWrtO_1, cItemO_1, opr_ex, zcast, cnRs_raw, cnRs_nil, frz_nil, nil_map, List.map_nil, Int.toNat_natCast, Bool.not_eq_true, Bool.not_eq_false, decide_eq_true_eq, decide_eq_false_iff_not, gt_iff_lt]
  refine ⟨fun i => i ≤ xs.length ∧ ∀ j, j < i → (xs.getD j 0 == n) = false, ⟨by omega, fun j hj => absurd hj (Nat.not_lt_zero _)⟩, fun i => xs.length - i, fun i hp => ?_⟩
  obtain ⟨h1, h2⟩ := hp
  refine ⟨fun hlt => ⟨by omega, hlt, fun e => ?_, fun e => ⟨i + 1, wrapN (by omega), ⟨by omega, below_succ h2 (by simpa using e)⟩, by simp only; omega⟩⟩, fun hge => ?_⟩
  · exact (any_hit (p := fun x => x == n) (d := 0) (i := i) (by omega) (by simpa using e)).symm
  · exact (any_miss (p := fun x => x == n) (d := 0) fun j hj => h2 j (by omega)).symm
def spec_l3Has_c : Con Tryz.prog := ⟨64, 2, [.lend, .lend], [], List Int × Int, none, fun b => [(0, k1 (sI b.1)), (1, kI b.2)], fun b => [(2, kB (b.1.any fun x => x == b.2))], [], fun b h => spec_l3Has_ok (b.1) (b.2)⟩
theorem spec_PlcPlan_ok (p : Int) (s : Sto) (tx : Int) (o : Opr) : FunOK Tryz.prog 26 4 [] [(0, kI p), (1, kSto s), (2, kI tx), (3, kOp o)] (· = [(4, kPlan (planI p s tx o))]) := by
  refine fun_to (E := ⟨tab, ctOf [spec_OpOk_c, spec_l1In_c, spec_PlcOk_c, spec_OpPlaces_c, spec_l3Has_c, spec_l3Plan_c], 36, [], [(0, [0, 2, 5, 7, 8, 30, 35]), (1, [0, 2, 5, 7, 8, 29, 30, 35]), (2, [8, 30, 35]), (3, [8, 30, 35])], [], [], [], []⟩) tab_ok mixed Tryz.func26 rfl Tryz.ntmps26 (rvs := [.cell 8 41]) Tryz.results26 rfl fun hl => ?_
  refine cast (show (∃ (b : Int × Sto), (p = b.1 ∧ cnRs (typ dItem eItemS s) = cnRs (typ dItem eItemS b.2)) ∧ ((!plcB b.1 b.2) = false → ∃ (b : Opr), (o.kind = b.kind ∧ o.who = b.who ∧ o.inn = b.inn ∧ o.code = b.code ∧ o.sec = b.sec ∧ o.fam = b.fam ∧ o.gen = b.gen) ∧ ((!opOk b) = false → ∃ (b : Int × Int × Int), (tx = b.1 ∧ (0 : Int) = b.2.1 ∧ (29 : Int) = b.2.2) ∧ ((!inR b.1 b.2.1 b.2.2) = false → ∃ (b : Opr), (o.kind = b.kind ∧ o.who = b.who ∧ o.inn = b.inn ∧ o.code = b.code ∧ o.sec = b.sec ∧ o.fam = b.fam ∧ o.gen = b.gen) ∧ ∃ (b_1 : List Int × Int), (cnRs (frozenRs (typ (0 : Int) eI (placesL b))) = cnRs (typ (0 : Int) eI b_1.1) ∧ p = b_1.2) ∧ ((!b_1.1.any fun (x : Int) => x == b_1.2) = true → false = (planI p s tx o).ok ∧ cnRs nilR = cnRs (typ ByteArray.empty eS (planI p s tx o).locks) ∧ cnRs nilR = cnRs (typ dWrt eWrtO (planI p s tx o).writes)) ∧ ((!b_1.1.any fun (x : Int) => x == b_1.2) = false → ∃ (b : Int × Sto × Int × Opr), (p = b.1 ∧ cnRs (typ dItem eItemS s) = cnRs (typ dItem eItemS b.2.1) ∧ tx = b.2.2.1 ∧ o.kind = b.2.2.2.kind ∧ o.who = b.2.2.2.who ∧ o.inn = b.2.2.2.inn ∧ o.code = b.2.2.2.code ∧ o.sec = b.2.2.2.sec ∧ o.fam = b.2.2.2.fam ∧ o.gen = b.2.2.2.gen) ∧ (plcB b.1 b.2.1 = true ∧ opOk b.2.2.2 = true ∧ (0 : Int) ≤ b.2.2.1 ∧ b.2.2.1 ≤ (99 : Int)) ∧ (planP b.1 b.2.1 b.2.2.1 b.2.2.2).ok = (planI p s tx o).ok ∧ cnRs (typ ByteArray.empty eS (planP b.1 b.2.1 b.2.2.1 b.2.2.2).locks) = cnRs (typ ByteArray.empty eS (planI p s tx o).locks) ∧ cnRs (typ dWrt eWrtO (planP b.1 b.2.1 b.2.2.1 b.2.2.2).writes) = cnRs (typ dWrt eWrtO (planI p s tx o).writes))) ∧ ((!inR b.1 b.2.1 b.2.2) = true → false = (planI p s tx o).ok ∧ cnRs nilR = cnRs (typ ByteArray.empty eS (planI p s tx o).locks) ∧ cnRs nilR = cnRs (typ dWrt eWrtO (planI p s tx o).writes))) ∧ ((!opOk b) = true → false = (planI p s tx o).ok ∧ cnRs nilR = cnRs (typ ByteArray.empty eS (planI p s tx o).locks) ∧ cnRs nilR = cnRs (typ dWrt eWrtO (planI p s tx o).writes))) ∧ ((!plcB b.1 b.2) = true → false = (planI p s tx o).ok ∧ cnRs nilR = cnRs (typ ByteArray.empty eS (planI p s tx o).locks) ∧ cnRs nilR = cnRs (typ dWrt eWrtO (planI p s tx o).writes))) = _ by kernel_rfl) ?_
  simp only [cU, eU_iff, Prod.exists, Int.natCast_inj, and_assoc, exists_eq_left', exists_and_left, true_and, and_true, implies_true, and_self, bne_iff_ne, beq_iff_eq, beq_eq_false_iff_ne, ne_eq, forall_eq, Prod.forall, fi_eI, fi_eS, cI, nI_iff, cI_app, cItemO, cItemS, nItemO_iff, nItemS_iff, cWrtO, cWrtS, nWrtO_iff, nWrtS_iff, cStoO, cStoS, nStoO_iff, nStoS_iff, fItemO, fItemS, fWrtO, fWrtS, fStoO, fStoS, fI, frz_app, cWrtO_app, cWrtS_app, cWrtO_1, cItemO_1, opr_ex, zcast, cnRs_raw, cnRs_nil, frz_nil, nil_map, List.map_nil, Int.toNat_natCast, Bool.not_eq_true, Bool.not_eq_false, decide_eq_true_eq, decide_eq_false_iff_not, gt_iff_lt]
  refine ⟨fun h1 => ⟨fun h2 => ⟨fun h3 => ⟨fun h4 => ?_, fun h4 => ?_⟩, fun h3 => ?_⟩, fun h2 => ?_⟩, fun h1 => ?_⟩
  · rw [any_flip] at h4
    have h4 : ((placesL o).any fun x => p == x) = false := by simpa using h4
    simp [planI, h4]
  · rw [any_flip] at h4
    have h1 : plcB p s = true := by simpa using h1
    have h2 : opOk o = true := by simpa using h2
    have h3 : inR tx 0 29 = true := by simpa using h3
    have h4 : ((placesL o).any fun x => p == x) = true := by rw [← Bool.not_eq_false']; exact h4
    have e : planI p s tx o = planP p s tx o := by simp only [planI, h1, h3, h4, Bool.and_self, if_true]
    have ht : 0 ≤ tx ∧ tx ≤ 29 := by simpa [inR] using h3
    rw [e]
    exact ⟨h1, h2, by omega, by omega, rfl, rfl, rfl⟩
  · have h3 : inR tx 0 29 = false := by simpa using h3
    simp [planI, h3]
  · have h2 : opOk o = false := by simpa using h2
    have : placesL o = [] := by simp [placesL, h2]
    simp [planI, this]
  · have h1 : plcB p s = false := by simpa using h1
    simp [planI, h1]
def spec_PlcPlan_c : Con Tryz.prog := ⟨26, 4, [.lend, .lend, .lend, .lend], [], Int × Sto × Int × Opr, none, fun b => [(0, kI b.1), (1, kSto b.2.1), (2, kI b.2.2.1), (3, kOp b.2.2.2)], fun b => [(4, kPlan (planI b.1 b.2.1 b.2.2.1 b.2.2.2))], [], fun b h => spec_PlcPlan_ok (b.1) (b.2.1) (b.2.2.1) (b.2.2.2)⟩
end Go.Proofs.AI

namespace Go.Proofs.AI
open Go.RowKit Go.Proofs
set_option linter.unusedVariables false
set_option linter.unusedSimpArgs false
set_option maxRecDepth 100000
abbrev kPlanS (p : Plan) : Ky := ⟨.agg, [.c (.b p.ok), .c (sS p.locks), .c (sWrts p.writes)], []⟩
theorem laws_jaPlan_ok (a : Plan) (b : Plan) : FunOK Tryz.prog 25 2 [] [(0, kPlanS a), (1, kPlanS b)] (· = [(2, kB (a.ok == b.ok && decide (a.locks = b.locks) && decide (a.writes = b.writes)))]) := by
  refine fun_to (E := ⟨tab, ctOf [laws_jaTexts_c, laws_jaWrites_c], 24, [], [(0, [2, 3]), (1, [4])], [], [], [], []⟩) tab_ok mixed Tryz.func25 rfl Tryz.ntmps25 (rvs := [.tmp 4]) Tryz.results25 rfl fun hl => ?_
  refine cast (show (((if false = true then !a.ok == b.ok else a.ok == b.ok) = true → ∃ (b_1 : List ByteArray × List ByteArray), (cnRs (typ ByteArray.empty eS a.locks) = cnRs (typ ByteArray.empty eS b_1.1) ∧ cnRs (typ ByteArray.empty eS b.locks) = cnRs (typ ByteArray.empty eS b_1.2)) ∧ (decide (b_1.1 = b_1.2) = true → ∃ (b_2 : List Wrt × List Wrt), (cnRs (typ dWrt eWrtS a.writes) = cnRs (typ dWrt eWrtS b_2.1) ∧ cnRs (typ dWrt eWrtS b.writes) = cnRs (typ dWrt eWrtS b_2.2)) ∧ decide (b_2.1 = b_2.2) = (a.ok == b.ok && decide (a.locks = b.locks) && decide (a.writes = b.writes))) ∧ (decide (b_1.1 = b_1.2) = false → false = (a.ok == b.ok && decide (a.locks = b.locks) && decide (a.writes = b.writes)))) ∧ ((if false = true then !a.ok == b.ok else a.ok == b.ok) = false → false = (a.ok == b.ok && decide (a.locks = b.locks) && decide (a.writes = b.writes)))) = _ by kernel_rfl) ?_
  simp only [cU, eU_iff, Prod.exists, Int.natCast_inj, and_assoc, exists_eq_left', exists_and_left, true_and, and_true, implies_true, and_self, bne_iff_ne, beq_iff_eq, beq_eq_false_iff_ne, ne_eq, forall_eq, Prod.forall, fi_eI, fi_eS, cI, nI_iff, cI_app, cItemO, cItemS, nItemO_iff, nItemS_iff, cWrtO, cWrtS, nWrtO_iff, nWrtS_iff, cStoO, cStoS, nStoO_iff, nStoS_iff, fItemO, fItemS, fWrtO, fWrtS, fStoO, fStoS, fI, frz_app, cWrtO_app, cWrtS_app, cWrtO_1, cItemO_1, opr_ex, zcast, cnRs_raw, cnRs_nil, frz_nil, nil_map, List.map_nil, Int.toNat_natCast, Bool.not_eq_true, Bool.not_eq_false, decide_eq_true_eq, decide_eq_false_iff_not, gt_iff_lt, cS_eq, Bool.false_eq_true, if_false]
  refine ⟨fun h => ⟨fun e => ?_, fun e => ?_⟩, fun h => ?_⟩
  · rw [h, e]; simp
  · simp [e]
  · simp [h]
def laws_jaPlan_c : Con Tryz.prog := ⟨25, 2, [.lend, .lend], [], Plan × Plan, none, fun b => [(0, kPlanS b.1), (1, kPlanS b.2)], fun b => [(2, kB (b.1.ok == b.2.ok && decide (b.1.locks = b.2.locks) && decide (b.1.writes = b.2.writes)))], [], fun b h => laws_jaPlan_ok (b.1) (b.2)⟩
end Go.Proofs.AI

namespace Go.Proofs.AI
open Go.RowKit Go.Proofs
set_option linter.unusedVariables false
set_option linter.unusedSimpArgs false
set_option maxRecDepth 100000
theorem places13 (o : Opr) : ∀ p ∈ placesL o, 1 ≤ p ∧ p ≤ 3 := by
  simp only [placesL]
  repeat' split
  all_goals simp
def drawPlc2 (l : List Int) (g : List Sto) (o : Opr) (places : List Int) (p : Nat) : Int × Sto × Int × Opr :=
  let place := places.getD (pickB l p places.length).toNat 0
  let q := oddB l (p + 1) 12
  let a := if q.1 = true then (pickB l q.2 5, q.2 + 1) else (place, q.2)
  let q2 := oddB l a.2 12
  let b := if q2.1 = true then stoD l q2.2 3 else (g.getD (place - 1).toNat [], q2.2)
  (a.1, b.1, [15 + pickB l b.2 14, pickB l (b.2 + 1) 10, -1, 30].getD (([0, 0, 0, 0, 1, 2, 3] : List Int).getD (pickB l (b.2 + 2) 7).toNat 0).toNat 0, o)
def drawPlc1 (l : List Int) : Int × Sto × Int × Opr :=
  drawPlc2 l (gloI l 0).1 (opB l (gloI l 0).2 12).1 (placesL (opB l (gloI l 0).2 12).1 ++ [1]) (opB l (gloI l 0).2 12).2
def drawPlc (code : List Int) : Int × Sto × Int × Opr := drawPlc1 (code.take 2000)
theorem spec_DrawPlcPlan_ok (l : List Int) (hpre : okU l) : FunOK Tryz.prog 24 1 [] [(0, k1 (sU l))] (· = [(1, ⟨.tup [(false, 1), (true, 1), (false, 1), (true, 7)], .c (.n .i64 (drawPlc l).1) :: .c (sItems (drawPlc l).2.1) :: .c (.n .i64 (drawPlc l).2.2.1) :: cOp (drawPlc l).2.2.2, []⟩)]) := by
  refine fun_to (E := ⟨tab, ctOf [spec_l20Open_c, spec_l20Glo_c, spec_rd_odd_c, spec_l20Sto_c, spec_rd_pick_c, spec_l20Op_c, spec_OpPlaces_c], 58, [], [(0, [0, 3, 5, 11, 43]), (1, [3, 5, 6, 11, 13, 43]), (2, [3, 5, 6, 7, 11, 13, 15, 43]), (3, [3, 5, 6, 7, 8, 11, 13, 15, 43]), (4, [3, 5, 6, 7, 8, 9, 11, 13, 15, 19, 20, 21, 43]), (5, [3, 5, 6, 7, 8, 10, 11, 13, 15, 43]), (6, [3, 5, 6, 8, 10, 11, 13, 43]), (7, [3, 5, 6, 8, 10, 11, 13, 35, 43]), (8, [3, 5, 6, 8, 10, 11, 13, 43]), (9, [3, 5, 6, 8, 10, 11, 13, 39, 43]), (10, [3, 5, 6, 8, 10, 11, 13, 43]), (11, [2, 3, 4, 5, 11, 43])], [], [(6, [(0, [7])]), (10, [(2, [41])])], [(4, ⟨List Sto × Int × Int × Int × Int × Int × Int × Int × List Int × List Int × Int, fun x => [(3, ⟨.box, [.c (.ow 75 nilR)], []⟩), (5, ⟨.box, [.c (.n IntKind.i64 ((0 : Int))), .c (.n IntKind.i64 ((0 : Int))), .c (.n IntKind.i64 ((0 : Int))), .c (.n IntKind.i64 ((0 : Int))), .c (.n IntKind.i64 ((0 : Int))), .c (.n IntKind.i64 ((0 : Int))), .c (.n IntKind.i64 ((0 : Int)))], []⟩), (6, ⟨.one, [SC.pr (13 : Nat) (0 : Nat) (0 : Nat)], []⟩), (7, ⟨.one, [.c (oStos (x.1))], []⟩), (8, ⟨.box, [.c (.n IntKind.i64 (x.2.1)), .c (.n IntKind.i64 (x.2.2.1)), .c (.n IntKind.i64 (x.2.2.2.1)), .c (.n IntKind.i64 (x.2.2.2.2.1)), .c (.n IntKind.i64 (x.2.2.2.2.2.1)), .c (.n IntKind.i64 (x.2.2.2.2.2.2.1)), .c (.n IntKind.i64 (x.2.2.2.2.2.2.2.1))], []⟩), (9, ⟨.one, [.c (oI (x.2.2.2.2.2.2.2.2.1))], []⟩), (13, ⟨.box, [.c (sU (x.2.2.2.2.2.2.2.2.2.1)), .c (.n IntKind.i64 (x.2.2.2.2.2.2.2.2.2.2))], []⟩), (15, ⟨.one, [.c .any], []⟩), (19, ⟨.one, [.c .any], []⟩), (20, ⟨.one, [.c .any], []⟩), (21, ⟨.one, [.c .any], []⟩)]⟩)], []⟩) tab_ok mixed Tryz.func24 rfl Tryz.ntmps24 (rvs := [.tmp 2, .cell 3 35, .tmp 4, .cell 5 25]) Tryz.results24 rfl fun hl => ?_
  refine cast (show (∃ (b : List Int), cnRs (typ (0 : Int) eU l) = cnRs (typ (0 : Int) eU b) ∧ ∃ (b_1 : List Int × Nat), (cnRs (typ (0 : Int) eU (List.take (2000 : Nat) b)) = cnRs (typ (0 : Int) eU b_1.1) ∧ (↑(0 : Nat) : Int) = (↑b_1.2 : Int)) ∧ rdB b_1.1 b_1.2 (120 : Nat) ∧ ∃ (b : List Int × Nat × Int), ((cnRs (typ (0 : Int) eU b_1.1) = cnRs (typ (0 : Int) eU b.1) ∧ (↑(gloI b_1.1 b_1.2).2 : Int) = (↑b.2.1 : Int)) ∧ (12 : Int) = b.2.2) ∧ (rdB b.1 b.2.1 (8 : Nat) ∧ b.2.2 < (1000000 : Int)) ∧ ∃ (post : List Sto × Int × Int × Int × Int × Int × Int × Int × List Int × List Int × Int → Prop), (∃ (b_2 : Opr), ((opB b.1 b.2.1 b.2.2).1.kind = b_2.kind ∧ (opB b.1 b.2.1 b.2.2).1.who = b_2.who ∧ (opB b.1 b.2.1 b.2.2).1.inn = b_2.inn ∧ (opB b.1 b.2.1 b.2.2).1.code = b_2.code ∧ (opB b.1 b.2.1 b.2.2).1.sec = b_2.sec ∧ (opB b.1 b.2.1 b.2.2).1.fam = b_2.fam ∧ (opB b.1 b.2.1 b.2.2).1.gen = b_2.gen) ∧ ((placesL b_2).length + (1 : Nat)) * (8 : Nat) ≤ (140737488355328 : Nat) ∧ ∃ (x : List Sto × Int × Int × Int × Int × Int × Int × Int × List Int × List Int × Int), (cnRs nilR = cnRs nilR ∧ ((0 : Int) = (0 : Int) ∧ (0 : Int) = (0 : Int) ∧ (0 : Int) = (0 : Int) ∧ (0 : Int) = (0 : Int) ∧ (0 : Int) = (0 : Int) ∧ (0 : Int) = (0 : Int) ∧ (0 : Int) = (0 : Int)) ∧ ((13 : Nat) = (13 : Nat) ∧ (0 : Nat) = (0 : Nat) ∧ true = true) ∧ cnRs (typ [] eStoO (gloI b_1.1 b_1.2).1) = cnRs (typ [] eStoO x.1) ∧ ((opB b.1 b.2.1 b.2.2).1.kind = x.2.1 ∧ (opB b.1 b.2.1 b.2.2).1.who = x.2.2.1 ∧ (opB b.1 b.2.1 b.2.2).1.inn = x.2.2.2.1 ∧ (opB b.1 b.2.1 b.2.2).1.code = x.2.2.2.2.1 ∧ (opB b.1 b.2.1 b.2.2).1.sec = x.2.2.2.2.2.1 ∧ (opB b.1 b.2.1 b.2.2).1.fam = x.2.2.2.2.2.2.1 ∧ (opB b.1 b.2.1 b.2.2).1.gen = x.2.2.2.2.2.2.2.1) ∧ cnRs (appR (typ (0 : Int) eI (placesL b_2)) (typ (0 : Int) (fun (y : Int) => [CV.n IntKind.i64 y]) [(1 : Int)])) = cnRs (typ (0 : Int) eI x.2.2.2.2.2.2.2.2.1) ∧ (cnRs (typ (0 : Int) eU b.1) = cnRs (typ (0 : Int) eU x.2.2.2.2.2.2.2.2.2.1) ∧ (↑(opB b.1 b.2.1 b.2.2).2 : Int) = x.2.2.2.2.2.2.2.2.2.2) ∧ True ∧ True ∧ True ∧ True) ∧ post x) ∧ ∀ (x : List Sto × Int × Int × Int × Int × Int × Int × Int × List Int × List Int × Int), post x → ∃ (b : List Int × Nat × Int), ((cnRs (typ (0 : Int) eU x.2.2.2.2.2.2.2.2.2.1) = cnRs (typ (0 : Int) eU b.1) ∧ x.2.2.2.2.2.2.2.2.2.2 = (↑b.2.1 : Int)) ∧ (↑x.2.2.2.2.2.2.2.2.1.length : Int) = b.2.2) ∧ rdB b.1 b.2.1 (1 : Nat) ∧ ((0 : Int) ≤ pickB b.1 b.2.1 b.2.2 ∧ pickB b.1 b.2.1 b.2.2 < (↑x.2.2.2.2.2.2.2.2.1.length : Int)) ∧ (pickB b.1 b.2.1 b.2.2).toNat < x.2.2.2.2.2.2.2.2.1.length ∧ ((0 : Int) ≤ IntKind.i64.wrap (x.2.2.2.2.2.2.2.2.1.getD (pickB b.1 b.2.1 b.2.2).toNat (0 : Int) - (1 : Int)) ∧ IntKind.i64.wrap (x.2.2.2.2.2.2.2.2.1.getD (pickB b.1 b.2.1 b.2.2).toNat (0 : Int) - (1 : Int)) < (↑x.1.length : Int)) ∧ ∃ (b_2 : List Int × Nat × Int), ((cnRs (typ (0 : Int) eU b.1) = cnRs (typ (0 : Int) eU b_2.1) ∧ (↑(b.2.1 + (1 : Nat)) : Int) = (↑b_2.2.1 : Int)) ∧ (12 : Int) = b_2.2.2) ∧ (rdB b_2.1 b_2.2.1 (1 : Nat) ∧ b_2.2.2 < (1000000 : Int)) ∧ ((oddB b_2.1 b_2.2.1 b_2.2.2).1 = true → ∃ (b_3 : List Int × Nat × Int), ((cnRs (typ (0 : Int) eU b_2.1) = cnRs (typ (0 : Int) eU b_3.1) ∧ (↑(oddB b_2.1 b_2.2.1 b_2.2.2).2 : Int) = (↑b_3.2.1 : Int)) ∧ (5 : Int) = b_3.2.2) ∧ rdB b_3.1 b_3.2.1 (1 : Nat) ∧ ∃ (b_4 : List Int × Nat × Int), ((cnRs (typ (0 : Int) eU b_3.1) = cnRs (typ (0 : Int) eU b_4.1) ∧ (↑(b_3.2.1 + (1 : Nat)) : Int) = (↑b_4.2.1 : Int)) ∧ (12 : Int) = b_4.2.2) ∧ (rdB b_4.1 b_4.2.1 (1 : Nat) ∧ b_4.2.2 < (1000000 : Int)) ∧ ((oddB b_4.1 b_4.2.1 b_4.2.2).1 = true → ∃ (b : List Int × Nat × Int), ((cnRs (typ (0 : Int) eU b_4.1) = cnRs (typ (0 : Int) eU b.1) ∧ (↑(oddB b_4.1 b_4.2.1 b_4.2.2).2 : Int) = (↑b.2.1 : Int)) ∧ (3 : Int) = b.2.2) ∧ (rdB b.1 b.2.1 (170 : Nat) ∧ b.2.2 < (1000000 : Int)) ∧ ∃ (b_5 : List Int × Nat × Int), ((cnRs (typ (0 : Int) eU b.1) = cnRs (typ (0 : Int) eU b_5.1) ∧ (↑(stoD b.1 b.2.1 b.2.2).2 : Int) = (↑b_5.2.1 : Int)) ∧ (14 : Int) = b_5.2.2) ∧ rdB b_5.1 b_5.2.1 (1 : Nat) ∧ ∃ (b_6 : List Int × Nat × Int), ((cnRs (typ (0 : Int) eU b_5.1) = cnRs (typ (0 : Int) eU b_6.1) ∧ (↑(b_5.2.1 + (1 : Nat)) : Int) = (↑b_6.2.1 : Int)) ∧ (10 : Int) = b_6.2.2) ∧ rdB b_6.1 b_6.2.1 (1 : Nat) ∧ ∃ (b_7 : List Int × Nat × Int), ((cnRs (typ (0 : Int) eU b_6.1) = cnRs (typ (0 : Int) eU b_7.1) ∧ (↑(b_6.2.1 + (1 : Nat)) : Int) = (↑b_7.2.1 : Int)) ∧ (7 : Int) = b_7.2.2) ∧ rdB b_7.1 b_7.2.1 (1 : Nat) ∧ ((0 : Int) ≤ pickB b_7.1 b_7.2.1 b_7.2.2 ∧ pickB b_7.1 b_7.2.1 b_7.2.2 < (↑(7 : Nat) : Int)) ∧ (pickB b_7.1 b_7.2.1 b_7.2.2).toNat < (7 : Nat) ∧ ((0 : Int) ≤ [(0 : Int), (0 : Int), (0 : Int), (0 : Int), (1 : Int), (2 : Int), (3 : Int)].getD (pickB b_7.1 b_7.2.1 b_7.2.2).toNat (0 : Int) ∧ [(0 : Int), (0 : Int), (0 : Int), (0 : Int), (1 : Int), (2 : Int), (3 : Int)].getD (pickB b_7.1 b_7.2.1 b_7.2.2).toNat (0 : Int) < (↑(4 : Nat) : Int)) ∧ ([(0 : Int), (0 : Int), (0 : Int), (0 : Int), (1 : Int), (2 : Int), (3 : Int)].getD (pickB b_7.1 b_7.2.1 b_7.2.2).toNat (0 : Int)).toNat < (4 : Nat) ∧ pickB b_3.1 b_3.2.1 b_3.2.2 = (drawPlc l).1 ∧ cnRs (frozenRs (typ dItem eItemO (stoD b.1 b.2.1 b.2.2).1)) = cnRs (typ dItem eItemS (drawPlc l).2.1) ∧ [IntKind.i64.wrap ((15 : Int) + pickB b_5.1 b_5.2.1 b_5.2.2), pickB b_6.1 b_6.2.1 b_6.2.2, (-1 : Int), (30 : Int)].getD ([(0 : Int), (0 : Int), (0 : Int), (0 : Int), (1 : Int), (2 : Int), (3 : Int)].getD (pickB b_7.1 b_7.2.1 b_7.2.2).toNat (0 : Int)).toNat (0 : Int) = (drawPlc l).2.2.1 ∧ x.2.1 = (drawPlc l).2.2.2.kind ∧ x.2.2.1 = (drawPlc l).2.2.2.who ∧ x.2.2.2.1 = (drawPlc l).2.2.2.inn ∧ x.2.2.2.2.1 = (drawPlc l).2.2.2.code ∧ x.2.2.2.2.2.1 = (drawPlc l).2.2.2.sec ∧ x.2.2.2.2.2.2.1 = (drawPlc l).2.2.2.fam ∧ x.2.2.2.2.2.2.2.1 = (drawPlc l).2.2.2.gen) ∧ ((oddB b_4.1 b_4.2.1 b_4.2.2).1 = false → ∃ (b_5 : List Int × Nat × Int), ((cnRs (typ (0 : Int) eU b_4.1) = cnRs (typ (0 : Int) eU b_5.1) ∧ (↑(oddB b_4.1 b_4.2.1 b_4.2.2).2 : Int) = (↑b_5.2.1 : Int)) ∧ (14 : Int) = b_5.2.2) ∧ rdB b_5.1 b_5.2.1 (1 : Nat) ∧ ∃ (b_6 : List Int × Nat × Int), ((cnRs (typ (0 : Int) eU b_5.1) = cnRs (typ (0 : Int) eU b_6.1) ∧ (↑(b_5.2.1 + (1 : Nat)) : Int) = (↑b_6.2.1 : Int)) ∧ (10 : Int) = b_6.2.2) ∧ rdB b_6.1 b_6.2.1 (1 : Nat) ∧ ∃ (b_7 : List Int × Nat × Int), ((cnRs (typ (0 : Int) eU b_6.1) = cnRs (typ (0 : Int) eU b_7.1) ∧ (↑(b_6.2.1 + (1 : Nat)) : Int) = (↑b_7.2.1 : Int)) ∧ (7 : Int) = b_7.2.2) ∧ rdB b_7.1 b_7.2.1 (1 : Nat) ∧ ((0 : Int) ≤ pickB b_7.1 b_7.2.1 b_7.2.2 ∧ pickB b_7.1 b_7.2.1 b_7.2.2 < (↑(7 : Nat) : Int)) ∧ (pickB b_7.1 b_7.2.1 b_7.2.2).toNat < (7 : Nat) ∧ ((0 : Int) ≤ [(0 : Int), (0 : Int), (0 : Int), (0 : Int), (1 : Int), (2 : Int), (3 : Int)].getD (pickB b_7.1 b_7.2.1 b_7.2.2).toNat (0 : Int) ∧ [(0 : Int), (0 : Int), (0 : Int), (0 : Int), (1 : Int), (2 : Int), (3 : Int)].getD (pickB b_7.1 b_7.2.1 b_7.2.2).toNat (0 : Int) < (↑(4 : Nat) : Int)) ∧ ([(0 : Int), (0 : Int), (0 : Int), (0 : Int), (1 : Int), (2 : Int), (3 : Int)].getD (pickB b_7.1 b_7.2.1 b_7.2.2).toNat (0 : Int)).toNat < (4 : Nat) ∧ pickB b_3.1 b_3.2.1 b_3.2.2 = (drawPlc l).1 ∧ cnRs (frozenRs (typ dItem eItemO (x.1.getD (IntKind.i64.wrap (x.2.2.2.2.2.2.2.2.1.getD (pickB b.1 b.2.1 b.2.2).toNat (0 : Int) - (1 : Int))).toNat []))) = cnRs (typ dItem eItemS (drawPlc l).2.1) ∧ [IntKind.i64.wrap ((15 : Int) + pickB b_5.1 b_5.2.1 b_5.2.2), pickB b_6.1 b_6.2.1 b_6.2.2, (-1 : Int), (30 : Int)].getD ([(0 : Int), (0 : Int), (0 : Int), (0 : Int), (1 : Int), (2 : Int), (3 : Int)].getD (pickB b_7.1 b_7.2.1 b_7.2.2).toNat (0 : Int)).toNat (0 : Int) = (drawPlc l).2.2.1 ∧ x.2.1 = (drawPlc l).2.2.2.kind ∧ x.2.2.1 = (drawPlc l).2.2.2.who ∧ x.2.2.2.1 = (drawPlc l).2.2.2.inn ∧ x.2.2.2.2.1 = (drawPlc l).2.2.2.code ∧ x.2.2.2.2.2.1 = (drawPlc l).2.2.2.sec ∧ x.2.2.2.2.2.2.1 = (drawPlc l).2.2.2.fam ∧ x.2.2.2.2.2.2.2.1 = (drawPlc l).2.2.2.gen)) ∧ ((oddB b_2.1 b_2.2.1 b_2.2.2).1 = false → ∃ (b_3 : List Int × Nat × Int), ((cnRs (typ (0 : Int) eU b_2.1) = cnRs (typ (0 : Int) eU b_3.1) ∧ (↑(oddB b_2.1 b_2.2.1 b_2.2.2).2 : Int) = (↑b_3.2.1 : Int)) ∧ (12 : Int) = b_3.2.2) ∧ (rdB b_3.1 b_3.2.1 (1 : Nat) ∧ b_3.2.2 < (1000000 : Int)) ∧ ((oddB b_3.1 b_3.2.1 b_3.2.2).1 = true → ∃ (b_4 : List Int × Nat × Int), ((cnRs (typ (0 : Int) eU b_3.1) = cnRs (typ (0 : Int) eU b_4.1) ∧ (↑(oddB b_3.1 b_3.2.1 b_3.2.2).2 : Int) = (↑b_4.2.1 : Int)) ∧ (3 : Int) = b_4.2.2) ∧ (rdB b_4.1 b_4.2.1 (170 : Nat) ∧ b_4.2.2 < (1000000 : Int)) ∧ ∃ (b_5 : List Int × Nat × Int), ((cnRs (typ (0 : Int) eU b_4.1) = cnRs (typ (0 : Int) eU b_5.1) ∧ (↑(stoD b_4.1 b_4.2.1 b_4.2.2).2 : Int) = (↑b_5.2.1 : Int)) ∧ (14 : Int) = b_5.2.2) ∧ rdB b_5.1 b_5.2.1 (1 : Nat) ∧ ∃ (b_6 : List Int × Nat × Int), ((cnRs (typ (0 : Int) eU b_5.1) = cnRs (typ (0 : Int) eU b_6.1) ∧ (↑(b_5.2.1 + (1 : Nat)) : Int) = (↑b_6.2.1 : Int)) ∧ (10 : Int) = b_6.2.2) ∧ rdB b_6.1 b_6.2.1 (1 : Nat) ∧ ∃ (b_7 : List Int × Nat × Int), ((cnRs (typ (0 : Int) eU b_6.1) = cnRs (typ (0 : Int) eU b_7.1) ∧ (↑(b_6.2.1 + (1 : Nat)) : Int) = (↑b_7.2.1 : Int)) ∧ (7 : Int) = b_7.2.2) ∧ rdB b_7.1 b_7.2.1 (1 : Nat) ∧ ((0 : Int) ≤ pickB b_7.1 b_7.2.1 b_7.2.2 ∧ pickB b_7.1 b_7.2.1 b_7.2.2 < (↑(7 : Nat) : Int)) ∧ (pickB b_7.1 b_7.2.1 b_7.2.2).toNat < (7 : Nat) ∧ ((0 : Int) ≤ [(0 : Int), (0 : Int), (0 : Int), (0 : Int), (1 : Int), (2 : Int), (3 : Int)].getD (pickB b_7.1 b_7.2.1 b_7.2.2).toNat (0 : Int) ∧ [(0 : Int), (0 : Int), (0 : Int), (0 : Int), (1 : Int), (2 : Int), (3 : Int)].getD (pickB b_7.1 b_7.2.1 b_7.2.2).toNat (0 : Int) < (↑(4 : Nat) : Int)) ∧ ([(0 : Int), (0 : Int), (0 : Int), (0 : Int), (1 : Int), (2 : Int), (3 : Int)].getD (pickB b_7.1 b_7.2.1 b_7.2.2).toNat (0 : Int)).toNat < (4 : Nat) ∧ x.2.2.2.2.2.2.2.2.1.getD (pickB b.1 b.2.1 b.2.2).toNat (0 : Int) = (drawPlc l).1 ∧ cnRs (frozenRs (typ dItem eItemO (stoD b_4.1 b_4.2.1 b_4.2.2).1)) = cnRs (typ dItem eItemS (drawPlc l).2.1) ∧ [IntKind.i64.wrap ((15 : Int) + pickB b_5.1 b_5.2.1 b_5.2.2), pickB b_6.1 b_6.2.1 b_6.2.2, (-1 : Int), (30 : Int)].getD ([(0 : Int), (0 : Int), (0 : Int), (0 : Int), (1 : Int), (2 : Int), (3 : Int)].getD (pickB b_7.1 b_7.2.1 b_7.2.2).toNat (0 : Int)).toNat (0 : Int) = (drawPlc l).2.2.1 ∧ x.2.1 = (drawPlc l).2.2.2.kind ∧ x.2.2.1 = (drawPlc l).2.2.2.who ∧ x.2.2.2.1 = (drawPlc l).2.2.2.inn ∧ x.2.2.2.2.1 = (drawPlc l).2.2.2.code ∧ x.2.2.2.2.2.1 = (drawPlc l).2.2.2.sec ∧ x.2.2.2.2.2.2.1 = (drawPlc l).2.2.2.fam ∧ x.2.2.2.2.2.2.2.1 = (drawPlc l).2.2.2.gen) ∧ ((oddB b_3.1 b_3.2.1 b_3.2.2).1 = false → ∃ (b_4 : List Int × Nat × Int), ((cnRs (typ (0 : Int) eU b_3.1) = cnRs (typ (0 : Int) eU b_4.1) ∧ (↑(oddB b_3.1 b_3.2.1 b_3.2.2).2 : Int) = (↑b_4.2.1 : Int)) ∧ (14 : Int) = b_4.2.2) ∧ rdB b_4.1 b_4.2.1 (1 : Nat) ∧ ∃ (b_5 : List Int × Nat × Int), ((cnRs (typ (0 : Int) eU b_4.1) = cnRs (typ (0 : Int) eU b_5.1) ∧ (↑(b_4.2.1 + (1 : Nat)) : Int) = (↑b_5.2.1 : Int)) ∧ (10 : Int) = b_5.2.2) ∧ rdB b_5.1 b_5.2.1 (1 : Nat) ∧ ∃ (b_6 : List Int × Nat × Int), ((cnRs (typ (0 : Int) eU b_5.1) = cnRs (typ (0 : Int) eU b_6.1) ∧ (↑(b_5.2.1 + (1 : Nat)) : Int) = (↑b_6.2.1 : Int)) ∧ (7 : Int) = b_6.2.2) ∧ rdB b_6.1 b_6.2.1 (1 : Nat) ∧ ((0 : Int) ≤ pickB b_6.1 b_6.2.1 b_6.2.2 ∧ pickB b_6.1 b_6.2.1 b_6.2.2 < (↑(7 : Nat) : Int)) ∧ (pickB b_6.1 b_6.2.1 b_6.2.2).toNat < (7 : Nat) ∧ ((0 : Int) ≤ [(0 : Int), (0 : Int), (0 : Int), (0 : Int), (1 : Int), (2 : Int), (3 : Int)].getD (pickB b_6.1 b_6.2.1 b_6.2.2).toNat (0 : Int) ∧ [(0 : Int), (0 : Int), (0 : Int), (0 : Int), (1 : Int), (2 : Int), (3 : Int)].getD (pickB b_6.1 b_6.2.1 b_6.2.2).toNat (0 : Int) < (↑(4 : Nat) : Int)) ∧ ([(0 : Int), (0 : Int), (0 : Int), (0 : Int), (1 : Int), (2 : Int), (3 : Int)].getD (pickB b_6.1 b_6.2.1 b_6.2.2).toNat (0 : Int)).toNat < (4 : Nat) ∧ x.2.2.2.2.2.2.2.2.1.getD (pickB b.1 b.2.1 b.2.2).toNat (0 : Int) = (drawPlc l).1 ∧ cnRs (frozenRs (typ dItem eItemO (x.1.getD (IntKind.i64.wrap (x.2.2.2.2.2.2.2.2.1.getD (pickB b.1 b.2.1 b.2.2).toNat (0 : Int) - (1 : Int))).toNat []))) = cnRs (typ dItem eItemS (drawPlc l).2.1) ∧ [IntKind.i64.wrap ((15 : Int) + pickB b_4.1 b_4.2.1 b_4.2.2), pickB b_5.1 b_5.2.1 b_5.2.2, (-1 : Int), (30 : Int)].getD ([(0 : Int), (0 : Int), (0 : Int), (0 : Int), (1 : Int), (2 : Int), (3 : Int)].getD (pickB b_6.1 b_6.2.1 b_6.2.2).toNat (0 : Int)).toNat (0 : Int) = (drawPlc l).2.2.1 ∧ x.2.1 = (drawPlc l).2.2.2.kind ∧ x.2.2.1 = (drawPlc l).2.2.2.who ∧ x.2.2.2.1 = (drawPlc l).2.2.2.inn ∧ x.2.2.2.2.1 = (drawPlc l).2.2.2.code ∧ x.2.2.2.2.2.1 = (drawPlc l).2.2.2.sec ∧ x.2.2.2.2.2.2.1 = (drawPlc l).2.2.2.fam ∧ x.2.2.2.2.2.2.2.1 = (drawPlc l).2.2.2.gen))) = _ by kernel_rfl) ?_
  simp only [cU, eU_iff, Prod.exists, Int.natCast_inj, and_assoc, exists_eq_left', exists_and_left, true_and, and_true, implies_true, and_self, bne_iff_ne, beq_iff_eq, beq_eq_false_iff_ne, ne_eq, forall_eq, Prod.forall, fi_eI, fi_eS, cI, nI_iff, cI_app, cItemO, cItemS, nItemO_iff, nItemS_iff, cWrtO, cWrtS, nWrtO_iff, nWrtS_iff, cStoO, cStoS, nStoO_iff, nStoS_iff, fItemO, fItemS, fWrtO, fWrtS, fStoO, fStoS, fI, frz_app, cWrtO_app, cWrtS_app, cWrtO_1, cItemO_1, opr_ex, zcast, cnRs_raw, cnRs_nil, frz_nil, nil_map, List.map_nil, Int.toNat_natCast, Bool.not_eq_true, Bool.not_eq_false, decide_eq_true_eq, decide_eq_false_iff_not, gt_iff_lt]
  have hv : drawPlc l = drawPlc1 (l.take 2000) := rfl
  rw [hv]
  have hu : okU (l.take 2000) := fun x hx => hpre x (List.mem_of_mem_take hx)
  generalize l.take 2000 = t at *
  clear hv hl hpre
  have r0 : ∀ p k, p + k ≤ 1000000000 → rdB t p k := fun p k h => ⟨hu, h⟩
  obtain ⟨g1, g2⟩ := gloI_le (l := t) (p := 0) (r0 _ _ (by omega))
  have ho := op_le (l := t) (p := (gloI t 0).2) 12 (r0 _ _ (by omega))
  have T : ∀ p, p ≤ 1000 → (0 ≤ pickB t (p + 1 + 1) 7 ∧ pickB t (p + 1 + 1) 7 < 7) ∧ (0 ≤ ([0, 0, 0, 0, 1, 2, 3] : List Int).getD (pickB t (p + 1 + 1) 7).toNat 0 ∧ ([0, 0, 0, 0, 1, 2, 3] : List Int).getD (pickB t (p + 1 + 1) 7).toNat 0 < 4) ∧ IntKind.i64.wrap (15 + pickB t p 14) = 15 + pickB t p 14 := fun p hp => by
    have h14 := pick_lt (n := 14) (r0 p 1 (by omega)) (by omega)
    refine ⟨pick_lt (n := 7) (r0 (p + 1 + 1) 1 (by omega)) (by omega), ?_, IntWalk.i64_in _ (by omega)⟩
    exact getD_all (P := fun x : Int => 0 ≤ x ∧ x < 4) (by simp) (by simp) _
  have hpl : ∀ x ∈ placesL (opB t (gloI t 0).2 12).1 ++ [1], 1 ≤ x ∧ x ≤ 3 := by
    intro x hx
    rcases List.mem_append.1 hx with hx | hx
    · exact places13 _ _ hx
    · simp at hx; omega
  have hpn : (placesL (opB t (gloI t 0).2 12).1).length ≤ 3 := by
    simp only [placesL]
    repeat' split
    all_goals simp
  have hpos : 1 ≤ (placesL (opB t (gloI t 0).2 12).1 ++ [1]).length := by simp
  have hq : (opB t (gloI t 0).2 12).2 ≤ 400 := by omega
  have key : drawPlc1 t = drawPlc2 t (gloI t 0).1 (opB t (gloI t 0).2 12).1 (placesL (opB t (gloI t 0).2 12).1 ++ [1]) (opB t (gloI t 0).2 12).2 := rfl
  rw [key]
  generalize placesL (opB t (gloI t 0).2 12).1 ++ [1] = pl at hpl hpos ⊢
  have hpn2 : (placesL (opB t (gloI t 0).2 12).1).length + 1 ≤ 4 := by omega
  refine ⟨r0 _ _ (by omega), r0 _ _ (by omega), by omega, by omega, fun z => z = ((gloI t 0).1, (opB t (gloI t 0).2 12).1.kind, (opB t (gloI t 0).2 12).1.who, (opB t (gloI t 0).2 12).1.inn, (opB t (gloI t 0).2 12).1.code, (opB t (gloI t 0).2 12).1.sec, (opB t (gloI t 0).2 12).1.fam, (opB t (gloI t 0).2 12).1.gen, pl, t, ((opB t (gloI t 0).2 12).2 : Int)), rfl, ?_⟩
  intro a1 a2 a3 a4 a5 a6 a7 a8 a9 a10 a11 hz
  simp only [Prod.mk.injEq] at hz
  obtain ⟨rfl, rfl, rfl, rfl, rfl, rfl, rfl, rfl, rfl, rfl, rfl⟩ := hz
  clear key hpn hpn2 g1 ho
  generalize (opB a10 (gloI a10 0).2 12).2 = p at *
  generalize (gloI a10 0).1 = g at *
  generalize (opB a10 (gloI a10 0).2 12).1 = o at *
  refine ⟨p, rfl, ?_⟩
  have hk := pick_lt (n := a9.length) (r0 p 1 (by omega)) (by omega)
  have hkk : (pickB a10 p a9.length).toNat < a9.length := by omega
  have hx := hpl _ (by rw [getD_lt hkk]; exact List.getElem_mem hkk : a9.getD (pickB a10 p a9.length).toNat 0 ∈ a9)
  have hw := IntWalk.i64_in (a9.getD (pickB a10 p a9.length).toNat 0 - 1) (by omega)
  rw [hw]
  simp only [drawPlc2]
  have q1 := odd_le a10 (p + 1) 12
  generalize oddB a10 (p + 1) 12 = q at *
  have q2 := odd_le a10 (q.2 + 1) 12
  have q3 := odd_le a10 q.2 12
  generalize ha1 : oddB a10 (q.2 + 1) 12 = u at *
  generalize ha2 : oddB a10 q.2 12 = u' at *
  have s1 := sto_le (l := a10) (p := u.2) 3 (r0 _ _ (by omega))
  have s2 := sto_le (l := a10) (p := u'.2) 3 (r0 _ _ (by omega))
  generalize hst : stoD a10 u.2 3 = st at *
  generalize hst' : stoD a10 u'.2 3 = st' at *
  refine ⟨r0 _ _ (by omega), hk.1, hk.2, hkk, by omega, by omega, r0 _ _ (by omega), by omega, fun ho => ?_, fun ho => ?_⟩
  · simp only [ho, if_true]
    rw [ha1]
    obtain ⟨e1, e2, e3⟩ := T st.2 (by omega)
    obtain ⟨c1, c2, c3⟩ := T u.2 (by omega)
    refine ⟨r0 _ _ (by omega), r0 _ _ (by omega), by omega, fun ho => ?_, fun ho => ?_⟩
    all_goals simp only [ho, if_true, if_false, Bool.false_eq_true, e3, c3, hst, hst']
    all_goals repeat' (first | assumption | (with_reducible apply And.intro) | exact r0 _ _ (by omega) | exact True.intro | rfl | omega)
  · simp only [ho, if_false, Bool.false_eq_true]
    rw [ha2]
    obtain ⟨e1, e2, e3⟩ := T st'.2 (by omega)
    obtain ⟨c1, c2, c3⟩ := T u'.2 (by omega)
    refine ⟨r0 _ _ (by omega), by omega, fun ho => ?_, fun ho => ?_⟩
    all_goals simp only [ho, if_true, if_false, Bool.false_eq_true, e3, c3, hst, hst']
    all_goals repeat' (first | assumption | (with_reducible apply And.intro) | exact r0 _ _ (by omega) | exact True.intro | rfl | omega)
def spec_DrawPlcPlan_c : Con Tryz.prog := ⟨24, 1, [.lend], [], List Int, some fun b => okU b, fun b => [(0, k1 (sU b))], fun b => [(1, ⟨.tup [(false, 1), (true, 1), (false, 1), (true, 7)], .c (.n .i64 (drawPlc b).1) :: .c (sItems (drawPlc b).2.1) :: .c (.n .i64 (drawPlc b).2.2.1) :: cOp (drawPlc b).2.2.2, []⟩)], [], fun b h => spec_DrawPlcPlan_ok b h⟩
end Go.Proofs.AI

namespace Go.Proofs.AI
open Go.RowKit Go.Proofs
set_option linter.unusedVariables false
set_option linter.unusedSimpArgs false
set_option maxRecDepth 100000
theorem cut_typ {α : Type} {d : α} {g : α → List CV} (xs : List α) {lo hi : Nat} (h : hi ≤ xs.length) : cnRs (cutR (typ d g xs) lo hi) = cnRs (typ d g ((xs.take hi).drop lo)) := by
  rw [cnRs_cut _ h, cnRs_typ, cnRs_typ, List.map_drop, List.map_take]
theorem any_eqB {xs : List ByteArray} {k : ByteArray} : (xs.any fun x => eqB x k) = true ↔ k ∈ xs := by
  rw [List.any_eq_true]
  exact ⟨fun ⟨x, h1, h2⟩ => eqB_eq h2 ▸ h1, fun h => ⟨k, h, eqB_self k⟩⟩
theorem any_eqB' {xs : List ByteArray} {k : ByteArray} : (xs.any fun x => eqB x k) = false ↔ k ∉ xs := by
  rw [← any_eqB]; simp
theorem nodup_take {α : Type} {xs : List α} {d : α} (h : xs.Nodup) {i : Nat} (hi : i < xs.length) : xs.getD i d ∉ xs.take i := by
  rw [getD_lt hi]
  intro hm
  obtain ⟨j, hj, e⟩ := List.getElem_of_mem hm
  simp at hj
  rw [List.getElem_take] at e
  exact List.pairwise_iff_getElem.1 h j i (by omega) hi (by omega) e
theorem planI_ok {p : Int} {s : Sto} {tx : Int} {o : Opr} (h : (planI p s tx o).ok = true) : plcB p s = true ∧ (0 ≤ tx ∧ tx ≤ 29) ∧ ((placesL o).any fun x => x == p) = true ∧ opOk o = true ∧ (p = 2 → o.kind ≠ 1) ∧ planI p s tx o = planP p s tx o := by
  simp only [planI] at h ⊢
  split at h
  · rename_i hh
    rw [if_pos hh]
    simp only [Bool.and_eq_true] at hh
    obtain ⟨⟨h1, h2⟩, h3⟩ := hh
    obtain ⟨a, b, c⟩ := places_mem h3
    exact ⟨h1, by simpa [inR] using h2, by rw [any_flip]; exact h3, a, c, rfl⟩
  · cases h
theorem planP_no {p : Int} {s : Sto} {tx : Int} {o : Opr} : (planP p s tx o).ok = false → (planP p s tx o).writes = [] := by
  simp only [planP, inP, mayP, tradeP, nextP, outP]
  repeat' split
  all_goals (intro h; first | rfl | cases h)
theorem planI_no {p : Int} {s : Sto} {tx : Int} {o : Opr} : (planI p s tx o).ok = false → (planI p s tx o).writes = [] := by
  simp only [planI]
  split
  · exact planP_no
  · exact fun _ => rfl
theorem plan_len (p : Int) (s : Sto) (tx : Int) (o : Opr) : (planP p s tx o).locks.length ≤ s.length + 3 ∧ (planP p s tx o).writes.length ≤ s.length + 2 := by
  have h1 : (s.filter (outI o)).length ≤ s.length := List.length_filter_le _ _
  simp only [planP, inP, mayP, tradeP, nextP, outP, noP]
  repeat' split
  all_goals (constructor <;> simp <;> omega)
theorem laws_FnPlcPlan_ok (l : List Int) (hpre : okU l) : FunOK Tryz.prog 7 1 [] [(0, k1 (sU l))] (· = [(1, kB true)]) := by
  refine fun_to (E := ⟨tab, ctOf [laws_jaOk_c, impl_PlcPlan_c, laws_jaHas_c, impl_OpPlaces_c, laws_jaIn_c, impl_StoDo_c, spec_DrawPlcPlan_c, laws_jaPlan_c, spec_PlcPlan_c, impl_WrtOk_c, impl_PlcOk_c], 98, [], [(0, [0]), (1, [0, 12]), (2, [2]), (3, [3, 4, 5, 6]), (4, [3, 4, 5, 6, 7]), (5, [3, 4, 6, 7, 32]), (6, [2]), (7, [3, 4, 6, 7, 35]), (8, [2]), (9, [3, 4, 6, 7, 8]), (10, [3, 4, 6, 7, 8, 47]), (11, [3, 4, 6, 7, 8]), (12, [3, 4, 6, 7, 8, 59]), (13, [2]), (14, [3, 4, 6, 7, 9]), (15, [3, 4, 6, 7, 9, 64]), (16, [3, 4, 6, 7, 9]), (17, [3, 4, 6, 7, 9, 85]), (18, [2]), (19, [2])], [(0, ⟨Nat, fun x => [(3, ⟨.one, [.c (.n IntKind.i64 ((drawPlc l).fst))], []⟩), (4, ⟨.box, [.c (.sh 75 (typ dItem eItemS (drawPlc l).snd.fst))], []⟩), (6, ⟨.box, [.c (.n IntKind.i64 ((drawPlc l).snd.snd.snd.kind)), .c (.n IntKind.i64 ((drawPlc l).snd.snd.snd.who)), .c (.n IntKind.i64 ((drawPlc l).snd.snd.snd.inn)), .c (.n IntKind.i64 ((drawPlc l).snd.snd.snd.code)), .c (.n IntKind.i64 ((drawPlc l).snd.snd.snd.sec)), .c (.n IntKind.i64 ((drawPlc l).snd.snd.snd.fam)), .c (.n IntKind.i64 ((drawPlc l).snd.snd.snd.gen))], []⟩), (7, ⟨.box, [.c (.b ((planI (drawPlc l).fst (drawPlc l).snd.fst (drawPlc l).snd.snd.fst (drawPlc l).snd.snd.snd).ok)), .c (.sh 9 (frozenRs (typ ByteArray.empty eS (planI (drawPlc l).fst (drawPlc l).snd.fst (drawPlc l).snd.snd.fst (drawPlc l).snd.snd.snd).locks))), .c (.sh 55 (frozenRs (typ dWrt eWrtO (planI (drawPlc l).fst (drawPlc l).snd.fst (drawPlc l).snd.snd.fst (drawPlc l).snd.snd.snd).writes)))], []⟩), (8, ⟨.one, [.c (.n IntKind.i64 (x : Int))], []⟩)]⟩), (2, ⟨Nat, fun x => [(3, ⟨.one, [.c (.n IntKind.i64 ((drawPlc l).fst))], []⟩), (4, ⟨.box, [.c (.sh 75 (typ dItem eItemS (drawPlc l).snd.fst))], []⟩), (6, ⟨.box, [.c (.n IntKind.i64 ((drawPlc l).snd.snd.snd.kind)), .c (.n IntKind.i64 ((drawPlc l).snd.snd.snd.who)), .c (.n IntKind.i64 ((drawPlc l).snd.snd.snd.inn)), .c (.n IntKind.i64 ((drawPlc l).snd.snd.snd.code)), .c (.n IntKind.i64 ((drawPlc l).snd.snd.snd.sec)), .c (.n IntKind.i64 ((drawPlc l).snd.snd.snd.fam)), .c (.n IntKind.i64 ((drawPlc l).snd.snd.snd.gen))], []⟩), (7, ⟨.box, [.c (.b ((planI (drawPlc l).fst (drawPlc l).snd.fst (drawPlc l).snd.snd.fst (drawPlc l).snd.snd.snd).ok)), .c (.sh 9 (frozenRs (typ ByteArray.empty eS (planI (drawPlc l).fst (drawPlc l).snd.fst (drawPlc l).snd.snd.fst (drawPlc l).snd.snd.snd).locks))), .c (.sh 55 (frozenRs (typ dWrt eWrtO (planI (drawPlc l).fst (drawPlc l).snd.fst (drawPlc l).snd.snd.fst (drawPlc l).snd.snd.snd).writes)))], []⟩), (9, ⟨.one, [.c (.n IntKind.i64 (x : Int))], []⟩)]⟩)], [(5, [(0, [7])])], [], []⟩) tab_ok mixed Tryz.func7 rfl Tryz.ntmps7 (rvs := [.tmp 2]) Tryz.results7 rfl fun hl => ?_
  refine cast (show ((decide ((↑l.length : Int) > (1048576 : Int)) = true → true = true) ∧ (decide ((↑l.length : Int) > (1048576 : Int)) = false → ∃ (b : List Int), cnRs (typ (0 : Int) eU l) = cnRs (typ (0 : Int) eU b) ∧ okU b ∧ ∃ (b_1 : Int × Sto × Int × Opr), ((drawPlc b).1 = b_1.1 ∧ cnRs (typ dItem eItemS (drawPlc b).2.1) = cnRs (typ dItem eItemS b_1.2.1) ∧ (drawPlc b).2.2.1 = b_1.2.2.1 ∧ (drawPlc b).2.2.2.kind = b_1.2.2.2.kind ∧ (drawPlc b).2.2.2.who = b_1.2.2.2.who ∧ (drawPlc b).2.2.2.inn = b_1.2.2.2.inn ∧ (drawPlc b).2.2.2.code = b_1.2.2.2.code ∧ (drawPlc b).2.2.2.sec = b_1.2.2.2.sec ∧ (drawPlc b).2.2.2.fam = b_1.2.2.2.fam ∧ (drawPlc b).2.2.2.gen = b_1.2.2.2.gen) ∧ ∃ (b_2 : Int × Sto × Int × Opr), ((drawPlc b).1 = b_2.1 ∧ cnRs (typ dItem eItemS (drawPlc b).2.1) = cnRs (typ dItem eItemS b_2.2.1) ∧ (drawPlc b).2.2.1 = b_2.2.2.1 ∧ (drawPlc b).2.2.2.kind = b_2.2.2.2.kind ∧ (drawPlc b).2.2.2.who = b_2.2.2.2.who ∧ (drawPlc b).2.2.2.inn = b_2.2.2.2.inn ∧ (drawPlc b).2.2.2.code = b_2.2.2.2.code ∧ (drawPlc b).2.2.2.sec = b_2.2.2.2.sec ∧ (drawPlc b).2.2.2.fam = b_2.2.2.2.fam ∧ (drawPlc b).2.2.2.gen = b_2.2.2.2.gen) ∧ ∃ (b_3 : Plan × Plan), (((planI b_1.1 b_1.2.1 b_1.2.2.1 b_1.2.2.2).ok = b_3.1.ok ∧ cnRs (frozenRs (typ ByteArray.empty eS (planI b_1.1 b_1.2.1 b_1.2.2.1 b_1.2.2.2).locks)) = cnRs (typ ByteArray.empty eS b_3.1.locks) ∧ cnRs (frozenRs (typ dWrt eWrtO (planI b_1.1 b_1.2.1 b_1.2.2.1 b_1.2.2.2).writes)) = cnRs (typ dWrt eWrtS b_3.1.writes)) ∧ (planI b_2.1 b_2.2.1 b_2.2.2.1 b_2.2.2.2).ok = b_3.2.ok ∧ cnRs (frozenRs (typ ByteArray.empty eS (planI b_2.1 b_2.2.1 b_2.2.2.1 b_2.2.2.2).locks)) = cnRs (typ ByteArray.empty eS b_3.2.locks) ∧ cnRs (frozenRs (typ dWrt eWrtO (planI b_2.1 b_2.2.1 b_2.2.2.1 b_2.2.2.2).writes)) = cnRs (typ dWrt eWrtS b_3.2.writes)) ∧ ((!(b_3.1.ok == b_3.2.ok && decide (b_3.1.locks = b_3.2.locks) && decide (b_3.1.writes = b_3.2.writes))) = true → false = true) ∧ ((!(b_3.1.ok == b_3.2.ok && decide (b_3.1.locks = b_3.2.locks) && decide (b_3.1.writes = b_3.2.writes))) = false → ((!(planI b_1.1 b_1.2.1 b_1.2.2.1 b_1.2.2.2).ok) = true → (((↑(planI b_1.1 b_1.2.1 b_1.2.2.1 b_1.2.2.2).writes.length : Int) == (0 : Int)) = true → ∃ (b : Unit), True ∧ true = true) ∧ (((↑(planI b_1.1 b_1.2.1 b_1.2.2.1 b_1.2.2.2).writes.length : Int) == (0 : Int)) = false → false = true)) ∧ ((!(planI b_1.1 b_1.2.1 b_1.2.2.1 b_1.2.2.2).ok) = false → ∃ (pre : Nat → Prop), ∃ (μ : Nat → Nat), ∃ (x0 : Nat), ((drawPlc b).1 = (drawPlc l).1 ∧ cnRs (typ dItem eItemS (drawPlc b).2.1) = cnRs (typ dItem eItemS (drawPlc l).2.1) ∧ ((drawPlc b).2.2.2.kind = (drawPlc l).2.2.2.kind ∧ (drawPlc b).2.2.2.who = (drawPlc l).2.2.2.who ∧ (drawPlc b).2.2.2.inn = (drawPlc l).2.2.2.inn ∧ (drawPlc b).2.2.2.code = (drawPlc l).2.2.2.code ∧ (drawPlc b).2.2.2.sec = (drawPlc l).2.2.2.sec ∧ (drawPlc b).2.2.2.fam = (drawPlc l).2.2.2.fam ∧ (drawPlc b).2.2.2.gen = (drawPlc l).2.2.2.gen) ∧ ((planI b_1.1 b_1.2.1 b_1.2.2.1 b_1.2.2.2).ok = (planI (drawPlc l).1 (drawPlc l).2.1 (drawPlc l).2.2.1 (drawPlc l).2.2.2).ok ∧ cnRs (frozenRs (typ ByteArray.empty eS (planI b_1.1 b_1.2.1 b_1.2.2.1 b_1.2.2.2).locks)) = cnRs (frozenRs (typ ByteArray.empty eS (planI (drawPlc l).1 (drawPlc l).2.1 (drawPlc l).2.2.1 (drawPlc l).2.2.2).locks)) ∧ cnRs (frozenRs (typ dWrt eWrtO (planI b_1.1 b_1.2.1 b_1.2.2.1 b_1.2.2.2).writes)) = cnRs (frozenRs (typ dWrt eWrtO (planI (drawPlc l).1 (drawPlc l).2.1 (drawPlc l).2.2.1 (drawPlc l).2.2.2).writes))) ∧ (0 : Int) = (↑x0 : Int)) ∧ pre x0 ∧ ∀ (x : Nat), pre x → (decide ((↑x : Int) < (↑(planI (drawPlc l).1 (drawPlc l).2.1 (drawPlc l).2.2.1 (drawPlc l).2.2.2).locks.length : Int)) = true → ((0 : Int) ≤ none.getD (0 : Int) ∧ none.getD (0 : Int) ≤ (some (↑x : Int)).getD (↑(planI (drawPlc l).1 (drawPlc l).2.1 (drawPlc l).2.2.1 (drawPlc l).2.2.2).locks.length : Int) ∧ (some (↑x : Int)).getD (↑(planI (drawPlc l).1 (drawPlc l).2.1 (drawPlc l).2.2.1 (drawPlc l).2.2.2).locks.length : Int) ≤ (↑(planI (drawPlc l).1 (drawPlc l).2.1 (drawPlc l).2.2.1 (drawPlc l).2.2.2).locks.length : Int)) ∧ ((0 : Int) ≤ (↑x : Int) ∧ (↑x : Int) < (↑(planI (drawPlc l).1 (drawPlc l).2.1 (drawPlc l).2.2.1 (drawPlc l).2.2.2).locks.length : Int)) ∧ ∃ (b : List ByteArray × ByteArray), (cnRs (cutR (frozenRs (typ ByteArray.empty eS (planI (drawPlc l).1 (drawPlc l).2.1 (drawPlc l).2.2.1 (drawPlc l).2.2.2).locks)) (none.getD (0 : Int)).toNat ((some (↑x : Int)).getD (↑(planI (drawPlc l).1 (drawPlc l).2.1 (drawPlc l).2.2.1 (drawPlc l).2.2.2).locks.length : Int)).toNat) = cnRs (typ ByteArray.empty eS b.1) ∧ (planI (drawPlc l).1 (drawPlc l).2.1 (drawPlc l).2.2.1 (drawPlc l).2.2.2).locks.getD (↑x : Int).toNat ByteArray.empty = b.2) ∧ ((b.1.any fun (x : ByteArray) => eqB x b.2) = true → false = true) ∧ ((b.1.any fun (x : ByteArray) => eqB x b.2) = false → ∃ (y : Nat), ((drawPlc l).1 = (drawPlc l).1 ∧ cnRs (typ dItem eItemS (drawPlc l).2.1) = cnRs (typ dItem eItemS (drawPlc l).2.1) ∧ ((drawPlc l).2.2.2.kind = (drawPlc l).2.2.2.kind ∧ (drawPlc l).2.2.2.who = (drawPlc l).2.2.2.who ∧ (drawPlc l).2.2.2.inn = (drawPlc l).2.2.2.inn ∧ (drawPlc l).2.2.2.code = (drawPlc l).2.2.2.code ∧ (drawPlc l).2.2.2.sec = (drawPlc l).2.2.2.sec ∧ (drawPlc l).2.2.2.fam = (drawPlc l).2.2.2.fam ∧ (drawPlc l).2.2.2.gen = (drawPlc l).2.2.2.gen) ∧ ((planI (drawPlc l).1 (drawPlc l).2.1 (drawPlc l).2.2.1 (drawPlc l).2.2.2).ok = (planI (drawPlc l).1 (drawPlc l).2.1 (drawPlc l).2.2.1 (drawPlc l).2.2.2).ok ∧ cnRs (frozenRs (typ ByteArray.empty eS (planI (drawPlc l).1 (drawPlc l).2.1 (drawPlc l).2.2.1 (drawPlc l).2.2.2).locks)) = cnRs (frozenRs (typ ByteArray.empty eS (planI (drawPlc l).1 (drawPlc l).2.1 (drawPlc l).2.2.1 (drawPlc l).2.2.2).locks)) ∧ cnRs (frozenRs (typ dWrt eWrtO (planI (drawPlc l).1 (drawPlc l).2.1 (drawPlc l).2.2.1 (drawPlc l).2.2.2).writes)) = cnRs (frozenRs (typ dWrt eWrtO (planI (drawPlc l).1 (drawPlc l).2.1 (drawPlc l).2.2.1 (drawPlc l).2.2.2).writes))) ∧ IntKind.i64.wrap ((↑x : Int) + (1 : Int)) = (↑y : Int)) ∧ pre y ∧ μ y < μ x)) ∧ (decide ((↑x : Int) < (↑(planI (drawPlc l).1 (drawPlc l).2.1 (drawPlc l).2.2.1 (drawPlc l).2.2.2).locks.length : Int)) = false → ∃ (pre : Nat → Prop), ∃ (μ : Nat → Nat), ∃ (x0 : Nat), ((drawPlc l).1 = (drawPlc l).1 ∧ cnRs (typ dItem eItemS (drawPlc l).2.1) = cnRs (typ dItem eItemS (drawPlc l).2.1) ∧ ((drawPlc l).2.2.2.kind = (drawPlc l).2.2.2.kind ∧ (drawPlc l).2.2.2.who = (drawPlc l).2.2.2.who ∧ (drawPlc l).2.2.2.inn = (drawPlc l).2.2.2.inn ∧ (drawPlc l).2.2.2.code = (drawPlc l).2.2.2.code ∧ (drawPlc l).2.2.2.sec = (drawPlc l).2.2.2.sec ∧ (drawPlc l).2.2.2.fam = (drawPlc l).2.2.2.fam ∧ (drawPlc l).2.2.2.gen = (drawPlc l).2.2.2.gen) ∧ ((planI (drawPlc l).1 (drawPlc l).2.1 (drawPlc l).2.2.1 (drawPlc l).2.2.2).ok = (planI (drawPlc l).1 (drawPlc l).2.1 (drawPlc l).2.2.1 (drawPlc l).2.2.2).ok ∧ cnRs (frozenRs (typ ByteArray.empty eS (planI (drawPlc l).1 (drawPlc l).2.1 (drawPlc l).2.2.1 (drawPlc l).2.2.2).locks)) = cnRs (frozenRs (typ ByteArray.empty eS (planI (drawPlc l).1 (drawPlc l).2.1 (drawPlc l).2.2.1 (drawPlc l).2.2.2).locks)) ∧ cnRs (frozenRs (typ dWrt eWrtO (planI (drawPlc l).1 (drawPlc l).2.1 (drawPlc l).2.2.1 (drawPlc l).2.2.2).writes)) = cnRs (frozenRs (typ dWrt eWrtO (planI (drawPlc l).1 (drawPlc l).2.1 (drawPlc l).2.2.1 (drawPlc l).2.2.2).writes))) ∧ (0 : Int) = (↑x0 : Int)) ∧ pre x0 ∧ ∀ (x : Nat), pre x → (decide ((↑x : Int) < (↑(planI (drawPlc l).1 (drawPlc l).2.1 (drawPlc l).2.2.1 (drawPlc l).2.2.2).writes.length : Int)) = true → ((0 : Int) ≤ (↑x : Int) ∧ (↑x : Int) < (↑(planI (drawPlc l).1 (drawPlc l).2.1 (drawPlc l).2.2.1 (drawPlc l).2.2.2).writes.length : Int)) ∧ ∃ (b : Wrt), (((planI (drawPlc l).1 (drawPlc l).2.1 (drawPlc l).2.2.1 (drawPlc l).2.2.2).writes.getD (↑x : Int).toNat dWrt).key = b.key ∧ ((planI (drawPlc l).1 (drawPlc l).2.1 (drawPlc l).2.2.1 (drawPlc l).2.2.2).writes.getD (↑x : Int).toNat dWrt).del = b.del ∧ cnRs (frozenRs (typ (0 : Int) eI ((planI (drawPlc l).1 (drawPlc l).2.1 (drawPlc l).2.2.1 (drawPlc l).2.2.2).writes.getD (↑x : Int).toNat dWrt).val)) = cnRs (typ (0 : Int) eI b.val)) ∧ ((!wrtB b) = false → ((0 : Int) ≤ (↑x : Int) ∧ (↑x : Int) < (↑(planI (drawPlc l).1 (drawPlc l).2.1 (drawPlc l).2.2.1 (drawPlc l).2.2.2).writes.length : Int)) ∧ ∃ (b : List ByteArray × ByteArray), (cnRs (frozenRs (typ ByteArray.empty eS (planI (drawPlc l).1 (drawPlc l).2.1 (drawPlc l).2.2.1 (drawPlc l).2.2.2).locks)) = cnRs (typ ByteArray.empty eS b.1) ∧ ((planI (drawPlc l).1 (drawPlc l).2.1 (drawPlc l).2.2.1 (drawPlc l).2.2.2).writes.getD (↑x : Int).toNat dWrt).key = b.2) ∧ ((!b.1.any fun (x : ByteArray) => eqB x b.2) = true → false = true) ∧ ((!b.1.any fun (x : ByteArray) => eqB x b.2) = false → ∃ (y : Nat), ((drawPlc l).1 = (drawPlc l).1 ∧ cnRs (typ dItem eItemS (drawPlc l).2.1) = cnRs (typ dItem eItemS (drawPlc l).2.1) ∧ ((drawPlc l).2.2.2.kind = (drawPlc l).2.2.2.kind ∧ (drawPlc l).2.2.2.who = (drawPlc l).2.2.2.who ∧ (drawPlc l).2.2.2.inn = (drawPlc l).2.2.2.inn ∧ (drawPlc l).2.2.2.code = (drawPlc l).2.2.2.code ∧ (drawPlc l).2.2.2.sec = (drawPlc l).2.2.2.sec ∧ (drawPlc l).2.2.2.fam = (drawPlc l).2.2.2.fam ∧ (drawPlc l).2.2.2.gen = (drawPlc l).2.2.2.gen) ∧ ((planI (drawPlc l).1 (drawPlc l).2.1 (drawPlc l).2.2.1 (drawPlc l).2.2.2).ok = (planI (drawPlc l).1 (drawPlc l).2.1 (drawPlc l).2.2.1 (drawPlc l).2.2.2).ok ∧ cnRs (frozenRs (typ ByteArray.empty eS (planI (drawPlc l).1 (drawPlc l).2.1 (drawPlc l).2.2.1 (drawPlc l).2.2.2).locks)) = cnRs (frozenRs (typ ByteArray.empty eS (planI (drawPlc l).1 (drawPlc l).2.1 (drawPlc l).2.2.1 (drawPlc l).2.2.2).locks)) ∧ cnRs (frozenRs (typ dWrt eWrtO (planI (drawPlc l).1 (drawPlc l).2.1 (drawPlc l).2.2.1 (drawPlc l).2.2.2).writes)) = cnRs (frozenRs (typ dWrt eWrtO (planI (drawPlc l).1 (drawPlc l).2.1 (drawPlc l).2.2.1 (drawPlc l).2.2.2).writes))) ∧ IntKind.i64.wrap ((↑x : Int) + (1 : Int)) = (↑y : Int)) ∧ pre y ∧ μ y < μ x)) ∧ ((!wrtB b) = true → false = true)) ∧ (decide ((↑x : Int) < (↑(planI (drawPlc l).1 (drawPlc l).2.1 (drawPlc l).2.2.1 (drawPlc l).2.2.2).writes.length : Int)) = false → ∃ (b : Sto × List Wrt), (cnRs (typ dItem eItemS (drawPlc l).2.1) = cnRs (typ dItem eItemS b.1) ∧ cnRs (frozenRs (typ dWrt eWrtO (planI (drawPlc l).1 (drawPlc l).2.1 (drawPlc l).2.2.1 (drawPlc l).2.2.2).writes)) = cnRs (typ dWrt eWrtS b.2)) ∧ ∃ (b_4 : Int × Sto), ((drawPlc l).1 = b_4.1 ∧ cnRs (frozenRs (typ dItem eItemO (doS b.1 b.2))) = cnRs (typ dItem eItemS b_4.2)) ∧ (plcB b_4.1 b_4.2 = true → ∃ (b : Opr), ((drawPlc l).2.2.2.kind = b.kind ∧ (drawPlc l).2.2.2.who = b.who ∧ (drawPlc l).2.2.2.inn = b.inn ∧ (drawPlc l).2.2.2.code = b.code ∧ (drawPlc l).2.2.2.sec = b.sec ∧ (drawPlc l).2.2.2.fam = b.fam ∧ (drawPlc l).2.2.2.gen = b.gen) ∧ ∃ (b_5 : List Int × Int), (cnRs (frozenRs (typ (0 : Int) eI (placesL b))) = cnRs (typ (0 : Int) eI b_5.1) ∧ (drawPlc l).1 = b_5.2) ∧ (b_5.1.any fun (x : Int) => x == b_5.2) = true) ∧ (plcB b_4.1 b_4.2 = false → false = true))))))) = _ by kernel_rfl) ?_
  simp only [cU, eU_iff, Prod.exists, Int.natCast_inj, and_assoc, exists_eq_left', exists_and_left, true_and, and_true, implies_true, and_self, bne_iff_ne, beq_iff_eq, beq_eq_false_iff_ne, ne_eq, forall_eq, Prod.forall, fi_eI, fi_eS, cI, nI_iff, cI_app, cItemO, cItemS, nItemO_iff, nItemS_iff, cWrtO, cWrtS, nWrtO_iff, nWrtS_iff, cStoO, cStoS, nStoO_iff, nStoS_iff, fItemO, fItemS, fWrtO, fWrtS, fStoO, fStoS, fI, frz_app, cWrtO_app, cWrtS_app, cWrtO_1, cItemO_1, opr_ex, zcast, cnRs_raw, cnRs_nil, frz_nil, nil_map, List.map_nil, Int.toNat_natCast, Bool.not_eq_true, Bool.not_eq_false, decide_eq_true_eq, decide_eq_false_iff_not, gt_iff_lt, fS, cS_eq, Option.getD_none, Option.getD_some]
  generalize (drawPlc l).1 = p at *
  generalize (drawPlc l).2.1 = s at *
  generalize (drawPlc l).2.2.1 = tx at *
  generalize (drawPlc l).2.2.2 = o at *
  obtain ⟨P, hP⟩ : ∃ P, P = planI p s tx o := ⟨_, rfl⟩
  simp only [← hP]
  refine fun hs => ⟨hpre, P, rfl, rfl, rfl, P, rfl, rfl, rfl, fun h => by simp at h, fun _ => ⟨fun h => ⟨fun _ => ⟨(), trivial⟩, fun h2 => ?_⟩, fun h => ?_⟩⟩
  · have := planI_no (p := p) (s := s) (tx := tx) (o := o) (by rw [← hP]; simpa using h)
    rw [← hP] at this
    rw [this] at h2; simp at h2
  have hok : (planI p s tx o).ok = true := by rw [← hP]; simpa using h
  obtain ⟨g1, g2, g3, g4, g5, g6⟩ := planI_ok hok
  have k1 := plan_keys g1 g4 tx
  have k2 := plan_wrt g1 g4 g2
  have k3 := plc_do g1 (plan_fits g1 g4 g5 tx)
  rw [← g6, ← hP] at k1 k2 k3
  have hlen := plan_len p s tx o
  rw [← g6, ← hP] at hlen
  have hsl := (stoB_small (plc_sto g1)).1
  have hL : P.locks.length ≤ 100 := by omega
  have hW : P.writes.length ≤ 100 := by omega
  refine ⟨fun i => i ≤ P.locks.length, by omega, fun i => P.locks.length - i, fun i hi => ⟨fun hlt => ⟨by omega, by omega, by omega, by omega, hlt, P.locks.take i, ?_, fun hh => ?_, fun hh => ⟨i + 1, wrapN (by omega), by omega, by simp only; omega⟩⟩, fun hge => ?_⟩⟩
  · exact cut_typ _ (by omega)
  · exact absurd (any_eqB.1 hh) (nodup_take k1.1 (by omega))
  refine ⟨fun i => i ≤ P.writes.length, by omega, fun i => P.writes.length - i, fun i hi => ⟨fun hlt => ⟨by omega, by omega, P.writes.getD i dWrt, rfl, rfl, rfl, ?_, ?_⟩, fun hge => ?_⟩⟩
  · intro hh
    have hm : P.writes.getD i dWrt ∈ P.writes := by rw [getD_lt (by omega)]; exact List.getElem_mem _
    refine ⟨by omega, by omega, fun h3 => ?_, fun h3 => ⟨i + 1, wrapN (by omega), by omega, by simp only; omega⟩⟩
    have := k1.2 _ hm
    rw [← any_eqB] at this
    rw [this] at h3; cases h3
  · intro hh
    have hm : P.writes.getD i dWrt ∈ P.writes := by rw [getD_lt (by omega)]; exact List.getElem_mem _
    rw [k2 _ hm] at hh; cases hh
  · rw [k3]
    exact ⟨fun _ => g3, fun h => by cases h⟩
def laws_FnPlcPlan_c : Con Tryz.prog := ⟨7, 1, [.lend], [], List Int, some fun b => okU b, fun b => [(0, k1 (sU b))], fun b => [(1, kB true)], [], fun b h => laws_FnPlcPlan_ok b h⟩
end Go.Proofs.AI
