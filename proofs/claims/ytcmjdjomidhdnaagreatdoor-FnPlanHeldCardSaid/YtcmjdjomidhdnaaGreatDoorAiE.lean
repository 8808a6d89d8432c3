/- A function's code, run over data: what is asked is enough. Conditions: none. -/
import Derived.Test.YtcmjdjomidhdnaaGreatDoorAiD
import Derived.Laws.StructEq
namespace Go.Proofs.AI
open Go.RowKit
set_option linter.unusedVariables false
set_option linter.unusedSimpArgs false

theorem scal_noSh {x : SC} (h : scal x = true) : noShC x := by
  cases x with
  | c x => cases x <;> simp [scal, noShC, noSh] at *
  | _ => simp [scal] at h
theorem scal_noShL : ∀ {xs : List SC}, xs.all scal = true → noShL xs
  | [], _ => trivial
  | x :: xs, h => by
    simp only [List.all_cons, Bool.and_eq_true] at h
    exact ⟨scal_noSh h.1, scal_noShL h.2⟩
theorem scalK_shOf {l : L} {j : Nat} (h : scalK l j = true) : shOf l j := by
  unfold scalK at h
  unfold shOf
  cases hK : mk l j with
  | none => trivial
  | some K => rw [hK] at h; exact scal_noShL h
theorem scal_boxSh {l : L} : ∀ {bs : List (Nat × Nat)}, bs.all (fun p => scalK l p.1) = true → boxSh l bs
  | [], _ => trivial
  | (j, k) :: r, h => by
    simp only [List.all_cons, Bool.and_eq_true] at h
    exact ⟨scalK_shOf h.1, scal_boxSh h.2⟩
theorem lentK_ok {m : Nat} {l : L} {r : List Inn} {Q : Prop} (h : lentK m l r Q) : callSh m l r ∧ Q := by
  unfold lentK at h
  unfold callSh
  cases hl : lentL r with
  | nil => rw [hl] at h; exact ⟨trivial, h⟩
  | cons x y =>
    rw [hl] at h
    simp only at h ⊢
    split at h
    · rename_i hb
      simp only [Bool.and_eq_true] at hb
      exact ⟨⟨scalK_shOf hb.1, scal_boxSh hb.2⟩, h⟩
    · exact h
section
variable {P : Program} {S : List Nat} {T : Tab} {CT : FuncId → Option (Con P)} {ops : Array Oper} {i : Nat} {o : Oper} {σ : St}
theorem actK_ok (hT : TabOk P T) (hi : ops[i]? = some o) (hw : Want ops σ o.guard true) {K : L → Prop} (h : actK T σ o K) : ∃ outs, OpS P S ops i σ outs ∧ K outs := by
  unfold actK at h
  split at h
  · rename_i ob outs ha
    split at h
    · rename_i hf
      exact ⟨outs, act1_ok hT hi hw ha (act1_free ha hf), h⟩
    · exact ⟨outs, act1_ok hT hi hw ha h.1, h.2⟩
  · exact h.elim
theorem execK_ok (hT : TabOk P T) (hi : ops[i]? = some o) (hw : Want ops σ o.guard true) {K : L → Prop} (h : execK T CT σ o K) : ∃ outs, OpS P S ops i σ outs ∧ K outs := by
  unfold execK at h
  split at h
  · rename_i cl args ats ho
    split at h
    · rename_i s hcl
      split at h
      · rename_i f caps hce
        split at h
        · rename_i c d hc hd
          split at h
          · rename_i hcf
            unfold callK at h
            split at h
            · rename_i gs out hg
              split at h
              · rename_i r hr
                split at h
                · rename_i hs
                  obtain ⟨hob, b, h1, h2⟩ := argsObK_ok h
                  obtain ⟨h2, h3⟩ := preK_ok h2
                  obtain ⟨h3, h4⟩ := lentK_ok (altK_ok h3)
                  split at h4
                  · rename_i hck
                    have hm : args.size + caps.length = c.m := by rw [hs.2.1]; simp
                    refine ⟨_, ?_, h4⟩
                    rw [← hm] at hck h3 ⊢
                    refine ops_call hi hw hd ho hcl hce c.mds (by rw [hs.1]; simp) hg hr hob hck h3 ?_
                    rw [hm, hs.2.2, ← hcf]
                    exact (c.ok b h2).same h1
                  · exact h4.elim
                · exact h.elim
              · exact h.elim
            · exact h.elim
          · exact h.elim
        · exact h.elim
      · exact h.elim
    · exact h.elim
  · rename_i s t x ho
    split at h
    · rename_i c hc
      split at h
      · rename_i d hd
        exact ⟨_, ops_conv hT hi hw hd ho hc, h⟩
      · exact h.elim
    · exact actK_ok hT hi hw h
  · exact actK_ok hT hi hw h
theorem mk_setB {s : L} {t : Nat} {b : Bool} {lg : Log} (h : mk s t = some ⟨.one, [.c (.b b)], lg⟩) : mk (setB s t b lg) = mk s := by
  funext k
  simp only [setB, mk, up]
  split
  · rename_i e; subst e; exact h.symm
  · rfl
theorem execT_ok (hT : TabOk P T) (hi : ops[i]? = some o) (hw : Want ops σ o.guard true) {tk : Bool} {K : L → Prop} (h : execT T CT tk σ o K) : ∃ outs, OpS P S ops i σ outs ∧ K outs := by
  unfold execT at h
  split at h
  · exact execK_ok hT hi hw h
  · split at h
    · rename_i x ho
      split at h
      · rename_i d hd
        split at h
        · rename_i e he
          exact ⟨_, ops_take hi hw hd ho he, h⟩
        · exact h.elim
      · exact h.elim
    · rename_i t x ho
      split at h
      · rename_i d hd
        split at h
        · rename_i e he
          exact ⟨_, ops_sip hT hi hw hd ho he, h⟩
        · exact h.elim
      · exact h.elim
    · rename_i x t ho
      split at h
      · rename_i d hd
        split at h
        · rename_i ob z hz
          exact ⟨_, ops_rd_one hT hi hw hd (by rw [ho]; exact lenF_ok hz h.1) trivial, h.2⟩
        · exact h.elim
      · exact h.elim
    · exact h.elim
theorem guardK_ok {all : List Oper} {s : L} {kn : KN} {g : Option (Nat × Bool)} {E O : L → KN → Prop} (h : guardK all s kn g E O) :
    ∃ s1 kn1, mk s1 = mk s ∧ ((Want all.toArray (mk s) g true ∧ E s1 kn1) ∨ (Want all.toArray (mk s) g false ∧ O s1 kn1)) := by
  unfold guardK at h
  split at h
  · exact ⟨s, kn, rfl, .inl ⟨.free, h⟩⟩
  · rename_i g b
    split at h
    · rename_i og hog
      have hog' : all.toArray[g]? = some og := by simpa using hog
      split at h
      · rename_i t ht
        have hone : ∀ {v : Bool} {lg : Log}, mk s t = some ⟨.one, [.c (.b v)], lg⟩ → oneC (mk s) (.tmp t) = some (.b v) := fun {v lg} hv => by
          simp [oneC, one1, hv, look]
        split at h
        · split at h
          · rename_i lg hv
            split at h
            · exact ⟨s, kn, rfl, .inl ⟨.yes hog' ht (hone hv), h⟩⟩
            · exact ⟨s, kn, rfl, .inr ⟨.no hog' ht (hone hv) (by simp), h⟩⟩
          · rename_i lg hv
            split at h
            · exact ⟨s, kn, rfl, .inr ⟨.no hog' ht (hone hv) (by simp), h⟩⟩
            · exact ⟨s, kn, rfl, .inl ⟨.yes hog' ht (hone hv), h⟩⟩
          · exact h.elim
        · split at h
          · rename_i v lg hv
            split at h
            · cases v with
              | true => exact ⟨_, _, mk_setB hv, .inl ⟨.yes hog' ht (hone hv), h.1 rfl⟩⟩
              | false => exact ⟨_, _, mk_setB hv, .inr ⟨.no hog' ht (hone hv) (by simp), h.2 rfl⟩⟩
            · cases v with
              | true => exact ⟨_, _, mk_setB hv, .inr ⟨.no hog' ht (hone hv) (by simp), h.2 rfl⟩⟩
              | false => exact ⟨_, _, mk_setB hv, .inl ⟨.yes hog' ht (hone hv), h.1 rfl⟩⟩
          · rename_i hv
            exact ⟨s, kn, rfl, .inr ⟨.off hog' ht (by rw [hv]; rfl), h⟩⟩
          · exact h.elim
      · exact h.elim
    · exact h.elim
theorem fzK_ob (z : Bool) (K : Ky) : ∀ o x, K.cells[o]? = some x → tellOb ((K.cells.map fun _ => fzT z).getD o .keep) x := by
  intro o x hx
  have : (K.cells.map fun _ => fzT z).getD o .keep = fzT z := by
    simp [List.getD_eq_getElem?_getD, List.getElem?_map, hx]
  rw [this]; cases z <;> trivial
theorem bxs_fz {z : Bool} {σ' : St} {k : Nat} {K : Ky} (h : Bxs S σ') (hk : σ' k = some K) : Bxs S (up σ' k (fzK z K)) := fun t ht => by
  obtain ⟨cells, lg, h1, h2⟩ := h t ht
  by_cases e : t = k
  · subst e
    rw [hk] at h1; cases h1
    exact ⟨_, _, by simp [up, fzK, retold]; exact ⟨rfl, rfl⟩, by rw [gone_marks (Nat.zero_le _)]; exact h2⟩
  · exact ⟨cells, lg, by simp [up, e, h1], h2⟩
theorem ops_fz1 {z : Bool} {k : Nat} {K : Ky} {outs : L} (hk : σ k = some K) (h : OpS P S ops i (up σ k (fzK z K)) outs) : OpS P S ops i σ ((k, fzK z K) :: outs) := by
  intro σ' hbx hsub hd cx a w hP hr hn K' Q hK
  refine h (up σ' k (fzK z K)) (bxs_fz hbx (hsub _ _ hk)) (sub_up hsub k _) (fun o d ho hod => ?_) cx a w hP (hr.tell (hsub _ _ hk) _ (fzK_ob z K)) hn K' Q hK
  simp only [up]
  split
  · rfl
  · exact hd o d ho hod
theorem mk_app {s : L} {t : Nat} : ∀ {l : L}, (∀ p ∈ l, p.1 ≠ t) → mk (l ++ s) t = mk s t
  | [], _ => rfl
  | (d, K) :: r, h => by
    simp only [List.cons_append, mk, up]
    rw [if_neg (fun e => h (d, K) (by simp) e.symm)]
    exact mk_app fun p hp => h p (by simp [hp])
theorem ops_fzg {z : Bool} {s : L} {σ : St} : ∀ (ts : List Nat) {outs : L} (pre : L), (∀ t ∈ ts, σ t = mk s t) → ts.Nodup → (∀ t ∈ ts, ∀ p ∈ pre, p.1 ≠ t) → OpS P S ops i (ups (ups σ pre) (fzL z s ts)) outs → OpS P S ops i (ups σ pre) (fzL z s ts ++ outs)
  | [], outs, pre, _, _, _, h => h
  | t :: r, outs, pre, he, hn, hp, h => by
    have hr := (List.nodup_cons.1 hn)
    simp only [fzL] at h ⊢
    cases hK : mk s t with
    | none =>
      simp only [hK] at h ⊢
      exact ops_fzg r pre (fun q hq => he q (by simp [hq])) hr.2 (fun q hq => hp q (by simp [hq])) h
    | some K =>
      simp only [hK, ups] at h ⊢
      have hk : ups σ pre t = some K := by
        rw [ups_eq pre _ _ (fun K' hK' => hp t (by simp) _ hK' rfl), he t (by simp)]; exact hK
      refine ops_fz1 hk ?_
      have := ops_fzg (z := z) (s := s) (σ := σ) r (outs := outs) (pre ++ [(t, fzK z K)]) (fun q hq => he q (by simp [hq])) hr.2 (fun q hq p hp' => by
        rcases List.mem_append.1 hp' with hp' | hp'
        · exact hp q (by simp [hq]) p hp'
        · simp at hp'; subst hp'; rintro rfl; exact hr.1 hq)
      rw [ups_append] at this
      exact this h
theorem ops_fz {z : Bool} {s : L} : ∀ (ts : List Nat) {outs : L} (pre : L), ts.Nodup → (∀ t ∈ ts, ∀ p ∈ pre, p.1 ≠ t) → OpS P S ops i (ups (ups (mk s) pre) (fzL z s ts)) outs → OpS P S ops i (ups (mk s) pre) (fzL z s ts ++ outs)
  | [], outs, pre, _, _, h => h
  | t :: r, outs, pre, hn, hp, h => by
    have hr := (List.nodup_cons.1 hn)
    simp only [fzL] at h ⊢
    cases hK : mk s t with
    | none =>
      simp only [hK] at h ⊢
      exact ops_fz r pre hr.2 (fun q hq => hp q (by simp [hq])) h
    | some K =>
      simp only [hK, ups] at h ⊢
      have hk : ups (mk s) pre t = some K := by
        rw [ups_eq pre _ _ (fun K' hK' => hp t (by simp) _ hK' rfl)]; exact hK
      refine ops_fz1 hk ?_
      have := ops_fz (z := z) (s := s) r (outs := outs) (pre ++ [(t, fzK z K)]) hr.2 (fun q hq p hp' => by
        rcases List.mem_append.1 hp' with hp' | hp'
        · exact hp q (by simp [hq]) p hp'
        · simp at hp'; subst hp'; rintro rfl; exact hr.1 hq)
      rw [ups_append] at this
      exact this h
theorem nodupN_ok : ∀ {l : List Nat}, nodupB l = true → l.Nodup
  | [], _ => List.nodup_nil
  | x :: r, h => by
    simp only [nodupB, Bool.and_eq_true, Bool.not_eq_true'] at h
    exact List.nodup_cons.2 ⟨fun hx => by have := h.1; simp [hx] at this, nodupN_ok h.2⟩
theorem fzL_in {z : Bool} {s : L} : ∀ {ts : List Nat} {p : Nat × Ky}, p ∈ fzL z s ts → p.1 ∈ ts
  | [], p, h => by simp [fzL] at h
  | t :: r, p, h => by
    simp only [fzL] at h
    split at h
    · rcases List.mem_cons.1 h with rfl | h
      · simp
      · simp [fzL_in h]
    · simp [fzL_in h]
theorem Want.fz {z : Bool} {all : List Oper} {s : L} {ts : List Nat} {b : Bool} (h : Want all.toArray (mk s) o.guard b) (hf : fzOk all o ts = true) : Want all.toArray (ups (mk s) (fzL z s ts)) o.guard b := by
  simp only [fzOk, Bool.and_eq_true, List.all_eq_true, Bool.not_eq_true'] at hf
  have key : ∀ {g t : Nat} {og : Oper} {c : Bool}, o.guard = some (g, c) → all.toArray[g]? = some og → og.dst = some t → ups (mk s) (fzL z s ts) t = mk s t := by
    intro g t og c hg ho ht
    have ho' : all[g]? = some og := by simpa using ho
    have hin : t ∈ gslot all o.guard := by simp [hg, gslot, ho', ht]
    have hno : ∀ K, (t, K) ∉ fzL z s ts := fun K hK => by
      have := hf.2 t hin
      have h2 := fzL_in hK
      simp at this
      exact this h2
    exact ups_eq _ _ _ hno
  generalize hg : o.guard = g at h
  cases h with
  | free => exact .free
  | yes h1 h2 h3 => exact .yes h1 h2 (by simp only [oneC, one1, key hg h1 h2] at h3 ⊢; exact h3)
  | no h1 h2 h3 hne => exact .no h1 h2 (by simp only [oneC, one1, key hg h1 h2] at h3 ⊢; exact h3) hne
  | off h1 h2 h3 => exact .off h1 h2 (by rw [key hg h1 h2]; exact h3)
theorem evOps_ok (hT : TabOk P T) {fz : List (Nat × List Nat)} {all : List Oper} {K : L → KN → Prop} : ∀ (r : List Oper) {k : Nat} {s : L} {kn : KN}, (∀ j, r[j]? = none ∨ all[k + j]? = r[j]?) → evOps T CT fz all r k s kn K →
    ∃ s' kn', TrP P all.toArray (List.range' k r.length) (mk s) (mk s') ∧ K s' kn' := by
  intro r
  induction r with
  | nil => intro k s kn _ h; exact ⟨s, kn, .nil _, h⟩
  | cons o r ih =>
    intro k s kn hall h
    have h0 : all.toArray[k]? = some o := by
      have := (hall 0).resolve_left (by simp)
      simpa using this
    have hr : ∀ j, r[j]? = none ∨ all[k + 1 + j]? = r[j]? := fun j => by
      have := hall (j + 1)
      rw [List.getElem?_cons_succ] at this
      rw [show k + 1 + j = k + (j + 1) by omega]; exact this
    rw [List.length_cons, List.range'_succ]
    simp only [evOps, pushL_eq, fcKN_eq] at h
    obtain ⟨s1, kn1, hm, ⟨hw, h⟩ | ⟨hw, h⟩⟩ := guardK_ok h
    · rw [← hm] at hw ⊢
      split at h
      · obtain ⟨outs, h1, h2⟩ := execT_ok hT h0 hw h
        obtain ⟨s', kn', h3, h4⟩ := ih hr h2
        exact ⟨s', kn', .cons outs h1 (by rw [ups_mk]; exact h3), h4⟩
      · rename_i ts hts
        split at h
        · rename_i hnd
          have hw' : Want all.toArray (mk ((fzL (fyAt fz k) s1 (fzAt fz k)).reverse ++ s1)) o.guard true := by
            rw [← ups_mk]
            exact hw.fz hnd
          obtain ⟨outs, h1, h2⟩ := execT_ok hT h0 hw' h
          obtain ⟨s', kn', h3, h4⟩ := ih hr h2
          refine ⟨s', kn', .cons (fzL (fyAt fz k) s1 (fzAt fz k) ++ outs) ?_ ?_, h4⟩
          · have := ops_fz (z := fyAt fz k) (P := P) (S := []) (ops := all.toArray) (i := k) (s := s1) (fzAt fz k) (outs := outs) [] (nodupN_ok (by simp only [fzOk, Bool.and_eq_true] at hnd; exact hnd.1)) (by simp)
            exact this (by rw [show ups (mk s1) [] = mk s1 from rfl, ups_mk]; exact h1)
          · rw [ups_append, ups_mk, ups_mk]; exact h3
        · exact h.elim
    · rw [← hm] at hw ⊢
      obtain ⟨s', kn', h3, h4⟩ := ih hr h
      exact ⟨s', kn', .cons _ (ops_off h0 hw) (by rw [ups_mk]; exact h3), h4⟩
theorem oneC_loc {R : List Nat} {t : Nat} (ht : t ∈ R) : oneC (loc R σ) (.tmp t) = oneC σ (.tmp t) := by
  have : loc R σ t = σ t := loc_in ht
  simp only [oneC, one1, this]
theorem gslot_in {Q : List Nat} {all : List Oper} {s : L} : ∀ {g t : Nat} {og : Oper} {b : Bool}, o.guard = some (g, b) → all.toArray[g]? = some og → og.dst = some t → t ∈ reads Q all s o := by
  intro g t og b hg ho ht
  have ho' : all[g]? = some og := by simpa using ho
  have : t ∈ gslot all o.guard := by simp [hg, gslot, ho', ht]
  unfold reads
  simp only
  have : t ∈ (match pinOf Q o with | some _ => ([] : List Nat) | none => (opsOf o.op).flatMap tmps) ++ gslot all o.guard := List.mem_append_right _ this
  generalize (match pinOf Q o with | some _ => ([] : List Nat) | none => (opsOf o.op).flatMap tmps) ++ gslot all o.guard = r0 at this
  split <;> (first | refine List.mem_cons_of_mem _ ?_ | skip) <;> split <;> (try split) <;> simp [this]
theorem Want.loc {Q : List Nat} {all : List Oper} {s : L} {b : Bool} (h : Want all.toArray (mk s) o.guard b) : Want all.toArray (loc (reads Q all s o) (mk s)) o.guard b := by
  generalize hg : o.guard = g at h
  cases h with
  | free => exact .free
  | yes h1 h2 h3 => exact .yes h1 h2 (by rw [oneC_loc (gslot_in hg h1 h2)]; exact h3)
  | no h1 h2 h3 hne => exact .no h1 h2 (by rw [oneC_loc (gslot_in hg h1 h2)]; exact h3) hne
  | off h1 h2 h3 => exact .off h1 h2 (by rw [loc_in (gslot_in hg h1 h2)]; exact h3)
theorem dst_in {Q : List Nat} {all : List Oper} {s : L} {d : Nat} (hd : o.dst = some d) : d ∈ reads Q all s o := by
  unfold reads; simp only [hd]; simp
theorem loc_more {R w : List Nat} (hw : ∀ k ∈ w, k ∈ R) : loc (R ++ w) σ = loc R σ := by
  funext k
  unfold AI.loc
  by_cases h : k ∈ R
  · simp [h]
  · have : k ∉ w := fun hk => h (hw k hk)
    simp [h, this]
theorem offAt_loc {R : List Nat} {d : Option Nat} (h : ∀ t, d = some t → t ∈ R) : offAt (AI.loc R σ) d = offAt σ d := by
  cases d with
  | none => rfl
  | some d => simp only [offAt, logAt, loc_in (h d rfl)]
theorem dstL_in {Q : List Nat} {all : List Oper} {s : L} {q : Nat} (hq : q ∈ dstL o.dst) : q ∈ reads Q all s o := by
  cases hd : o.dst with
  | none => simp [hd, dstL] at hq
  | some d =>
    simp [hd, dstL] at hq
    subst hq
    exact dst_in hd
theorem Want.fz' {z : Bool} {all : List Oper} {s : L} {σ : St} {ts : List Nat} {b : Bool} (h : Want all.toArray σ o.guard b) (hf : fzOk all o ts = true) : Want all.toArray (ups σ (fzL z s ts)) o.guard b := by
  simp only [fzOk, Bool.and_eq_true, List.all_eq_true, Bool.not_eq_true'] at hf
  have key : ∀ {g t : Nat} {og : Oper} {c : Bool}, o.guard = some (g, c) → all.toArray[g]? = some og → og.dst = some t → ups σ (fzL z s ts) t = σ t := by
    intro g t og c hg ho ht
    have ho' : all[g]? = some og := by simpa using ho
    have hin : t ∈ gslot all o.guard := by simp [hg, gslot, ho', ht]
    have hno : ∀ K, (t, K) ∉ fzL z s ts := fun K hK => by
      have := hf.2 t hin
      have h2 := fzL_in hK
      simp at this
      exact this h2
    exact ups_eq _ _ _ hno
  generalize hg : o.guard = g at h
  cases h with
  | free => exact .free
  | yes h1 h2 h3 => exact .yes h1 h2 (by simp only [oneC, one1, key hg h1 h2] at h3 ⊢; exact h3)
  | no h1 h2 h3 hne => exact .no h1 h2 (by simp only [oneC, one1, key hg h1 h2] at h3 ⊢; exact h3) hne
  | off h1 h2 h3 => exact .off h1 h2 (by rw [key hg h1 h2]; exact h3)
theorem execP_ok (hT : TabOk P T) (hi : ops[i]? = some o) (hw : Want ops σ o.guard true) {tk : Bool} {K : L → Prop} (h : execP T CT S tk σ o K) : ∃ outs, OpS P S ops i σ outs ∧ K outs := by
  unfold execP at h
  split at h
  · rename_i d t hp
    unfold pinOf at hp
    split at hp
    · rename_i t' ho
      split at hp
      · rename_i hc
        split at hp
        · rename_i d' hd
          injection hp with hp; injection hp with h1 h2; subst h1 h2
          exact ⟨_, ops_pin hi hw hd ho (by simpa using hc), h⟩
        · cases hp
      · cases hp
    · cases hp
  · exact execT_ok hT hi hw h
theorem bxsK_ok {s : L} (h : bxsK S s = true) : Bxs S (mk s) := fun t ht => by
  have := List.all_eq_true.1 h t ht
  split at this
  · rename_i cells lg hK
    exact ⟨cells, lg, hK, by simpa using this⟩
  · cases this
theorem evAny_ok (hT : TabOk P T) {n : Nat} {pn : List Nat} {fz : List (Nat × List Nat)} {all : List Oper} {K : L → KN → Prop} : ∀ (r : List Oper) {k : Nat} {s : L} {kn : KN} {acc : List RW}, acc.length = k → (∀ j, r[j]? = none ∨ all[k + j]? = r[j]?) → evAny T CT n pn fz all r s kn acc K →
    ∃ s' kn' rws, okMask n pn all (acc ++ rws) = true ∧ Tr P pn all.toArray (rwAt (acc ++ rws)) (List.range' k r.length) (mk s) (mk s') ∧ K s' kn' := by
  intro r
  induction r with
  | nil =>
    intro k s kn acc _ _ h
    simp only [evAny, pushL_eq, fcKN_eq, fcL_eq, fcNs_eq, fcRW_eq] at h
    split at h
    · rename_i hok
      exact ⟨s, kn, [], by simpa using hok, .nil _, h⟩
    · exact h.elim
  | cons o r ih =>
    intro k s kn acc hacc hall h
    have h0 : all.toArray[k]? = some o := by
      have := (hall 0).resolve_left (by simp)
      simpa using this
    have hr : ∀ j, r[j]? = none ∨ all[k + 1 + j]? = r[j]? := fun j => by
      have := hall (j + 1)
      rw [List.getElem?_cons_succ] at this
      rw [show k + 1 + j = k + (j + 1) by omega]; exact this
    rw [List.length_cons, List.range'_succ]
    simp only [evAny, pushL_eq, fcKN_eq, fcL_eq, fcNs_eq, fcRW_eq] at h
    have hat : ∀ (rw0 : RW) (rws : List RW), rwAt (acc ++ rw0 :: rws) k = rw0 := fun rw0 rws => by
      subst hacc
      simp [rwAt]
    obtain ⟨s1, kn1, hm, ⟨hw, h⟩ | ⟨hw, h⟩⟩ := guardK_ok h
    · rw [← hm] at hw ⊢
      split at h
      · obtain ⟨outs, h1, h2⟩ := execP_ok hT h0 hw.loc h
        split at h2
        · rename_i hin
          simp only [Bool.and_eq_true] at hin
          obtain ⟨hin, hbo⟩ := hin
          obtain ⟨s', kn', rws, h3, h4, h5⟩ := ih (acc := acc ++ [_]) (by simp [hacc]) hr h2
          rw [List.append_assoc, List.singleton_append] at h3 h4
          refine ⟨s', kn', _ :: rws, h3, .cons outs ?_ ?_ ?_ hbo (by rw [ups_mk]; exact h4), h5⟩
          · intro o' d' ho' hd'
            rw [h0] at ho'; cases ho'
            rw [hat]
            simp [dstL, hd']
          · rw [hat]
            rw [loc_more (fun q hq => ?_)]
            · exact h1
            · rcases List.mem_append.1 hq with hq | hq
              · exact dstL_in hq
              · obtain ⟨p, hp, rfl⟩ := List.mem_map.1 hq
                simpa using List.all_eq_true.1 hin p hp
          · intro q K' hq
            rw [hat]
            exact List.mem_append_right _ (List.mem_map.2 ⟨_, hq, rfl⟩)
        · exact h2.elim
      · split at h
        · rename_i hnd
          simp only [Bool.and_eq_true, List.all_eq_true] at hnd
          obtain ⟨hnd, hts⟩ := hnd
          have hts : ∀ t ∈ fzAt fz acc.length, t ∈ reads pn all s1 o := fun t ht => by simpa using hts t ht
          obtain ⟨outs, h1, h2⟩ := execT_ok hT h0 (hw.loc.fz' hnd) h
          split at h2
          · rename_i hin
            simp only [Bool.and_eq_true] at hin
            obtain ⟨hin, hbo⟩ := hin
            obtain ⟨s', kn', rws, h3, h4, h5⟩ := ih (acc := acc ++ [_]) (by simp [hacc]) hr h2
            rw [List.append_assoc, List.singleton_append] at h3 h4
            refine ⟨s', kn', _ :: rws, h3, .cons (fzL (fyAt fz acc.length) s1 (fzAt fz acc.length) ++ outs) ?_ ?_ ?_ hbo (by rw [ups_append, ups_mk, ups_mk]; exact h4), h5⟩
            · intro o' d' ho' hd'
              rw [h0] at ho'; cases ho'
              rw [hat]
              simp [dstL, hd']
            · rw [hat]
              rw [loc_more (fun q hq => ?_)]
              · have := ops_fzg (z := fyAt fz acc.length) (P := P) (S := pn) (ops := all.toArray) (i := k) (s := s1) (σ := loc (reads pn all s1 o) (mk s1)) (fzAt fz acc.length) (outs := outs) [] (fun t ht => loc_in (hts t ht)) (nodupN_ok (by simp only [fzOk, Bool.and_eq_true] at hnd; exact hnd.1)) (by simp)
                exact this h1
              · rcases List.mem_append.1 hq with hq | hq
                · exact dstL_in hq
                · obtain ⟨p, hp, rfl⟩ := List.mem_map.1 hq
                  rcases List.mem_append.1 hp with hp | hp
                  · exact hts _ (fzL_in hp)
                  · simpa using List.all_eq_true.1 hin p hp
            · intro q K' hq
              rw [hat]
              exact List.mem_append_right _ (List.mem_map.2 ⟨_, hq, rfl⟩)
          · exact h2.elim
        · exact h.elim
    · rw [← hm] at hw ⊢
      split at h
      rotate_left
      · exact h.elim
      · rename_i hbo
        obtain ⟨s', kn', rws, h3, h4, h5⟩ := ih (acc := acc ++ [_]) (by simp [hacc]) hr h
        rw [List.append_assoc, List.singleton_append] at h3 h4
        have hdin : ∀ t, o.dst = some t → t ∈ reads pn all s1 o := fun t ht => dst_in ht
        refine ⟨s', kn', _ :: rws, h3, .cons (offAt (mk s1) o.dst) ?_ ?_ ?_ hbo (by rw [ups_mk]; exact h4), h5⟩
        · intro o' d' ho' hd'
          rw [h0] at ho'; cases ho'
          rw [hat]
          simp [dstL, hd']
        · rw [hat]
          rw [loc_more (fun q hq => ?_)]
          · rw [← offAt_loc hdin]
            exact ops_off h0 hw.loc
          · cases hd : o.dst with
            | none => simp [hd, dstL] at hq
            | some d =>
              simp [hd, dstL] at hq
              subst hq
              exact dst_in hd
        · intro q K' hq
          rw [hat]
          cases hd : o.dst with
          | none => simp [hd, offAt] at hq
          | some d => simp [hd, offAt] at hq; simp [dstL, hq.1]
end
/-- What a walk leaves. -/
def Post (cx : Cx) (K : Exit → L → KN → Prop) : Exit → Act → World → Prop := fun e a w => ∃ s kn, K e s kn ∧ At cx (mk s) a w
theorem ev_ok {P : Program} {E : Env P} (hT : TabOk P E.T) (hm : P.follows .mixedOrders = true) : ∀ (c : Code) {i : Nat} {s : L} {kn : KN} {K : Exit → L → KN → Prop} {cx : Cx} {a : Act} {w : World}, cx.P = P → cx.n = E.n → cx.pn = E.pn →
    ev E c i s kn K → At cx (mk s) a w → c.wp P (Post cx K) a w := by
  intro c
  induction c with
  | skip => intro i s kn K cx a w _ _ _ h hat; exact wp_skip ⟨s, kn, h, hat⟩
  | region id ops d =>
    intro i s kn K cx a w hP hn hpn h hat
    simp only [ev, fcL_eq] at h
    split at h
    · rename_i V hV
      split at h
      · split at h
        · rename_i hok
          obtain ⟨s', kn', h1, h2⟩ := evOps_ok hT (K := fun s kn => K .normal (canonL V s) kn) ops.toList (k := 0) (fun j => .inr (by simp)) h
          have := region_plain (id := id) (l := ops.toList) (Q := Post cx K) hP (by rw [hn, hpn]; exact hok) (by rw [List.range_eq_range']; exact h1) hat (fun a w hat => ⟨_, _, h2, hat.to V rfl⟩)
          simpa using this
        · exact h.elim
      · split at h
        · rename_i hbk
          obtain ⟨s', kn', rws, h0, h1, h2⟩ := evAny_ok hT (K := fun s kn => K .normal (canonL V s) kn) ops.toList (k := 0) (acc := []) rfl (fun j => .inr (by simp)) h
          have := region_mask (id := id) (l := ops.toList) (rw := [] ++ rws) (Q := Post cx K) hP hm (by rw [hn, hpn]; exact h0) (bxsK_ok hbk) (by rw [List.range_eq_range']; exact h1) hat (fun a w hat => ⟨_, _, h2, hat.to V rfl⟩)
          simpa using this
        · exact h.elim
    · exact h.elim
  | seq x y ihx ihy =>
    intro i s kn K cx a w hP hn hpn h hat
    simp only [ev, fcL_eq] at h
    split at h
    · refine wp_seq (wp_mono (ihx hP hn hpn h hat) fun e a w ⟨s', kn', h1, h2⟩ => ?_)
      cases e with
      | normal => exact ihy hP hn hpn h1 h2
      | _ => exact ⟨s', kn', h1, h2⟩
    · obtain ⟨post, h, h0⟩ := h
      refine wp_seq (wp_mono (ihx hP hn hpn h hat) fun e a w ⟨s', kn', h1, h2⟩ => ?_)
      cases e with
      | normal =>
        obtain ⟨x, h3, h4⟩ := h1
        exact ihy hP hn hpn (h0 x h4) (same_at h3 h2)
      | _ => exact ⟨s', kn', h1, h2⟩
  | cond c x y ihx ihy =>
    intro i s kn K cx a w hP hn hpn h hat
    simp only [ev, fcL_eq] at h
    split at h
    · split at h
      · rename_i hc
        exact code_cond hat hc (fun _ => ihx hP hn hpn h hat) (by simp)
      · rename_i hc
        exact code_cond hat hc (by simp) (fun _ => ihy hP hn hpn h hat)
      · exact h.elim
    · split at h
      · rename_i d _
        split at h
        · rename_i t lg hd
          have hc : oneC (mk s) (.tmp d) = some (.b t) := by simp [oneC, one1, hd, look]
          refine code_cond hat hc (fun ht => ?_) (fun ht => ?_)
          · subst ht; exact ihx hP hn hpn (h.1 rfl) (by rw [mk_setB hd]; exact hat)
          · subst ht; exact ihy hP hn hpn (h.2 rfl) (by rw [mk_setB hd]; exact hat)
        · exact h.elim
      · exact h.elim
  | block id b ih =>
    intro i s kn K cx a w hP hn hpn h hat
    simp only [ev, fcL_eq] at h
    refine wp_block (wp_mono (ih hP hn hpn h hat) fun e a w ⟨s', kn', h1, h2⟩ => ?_)
    cases e with
    | exit j =>
      simp only at h1
      simp only [Exit.inBlock]
      split at h1
      · rename_i hj; rw [if_pos hj]; exact ⟨s', kn', h1, h2⟩
      · rename_i hj; rw [if_neg hj]; exact ⟨s', kn', h1, h2⟩
    | _ => exact ⟨s', kn', h1, h2⟩
  | loop b ih =>
    intro i s kn K cx a w hP hn hpn h hat
    simp only [ev, fcL_eq] at h
    split at h
    · rename_i F hF
      obtain ⟨pre, μ, x0, h1, h2, h3⟩ := h
      refine code_loop F.st pre μ x0 h2 (same_at h1 hat) fun x a w hx hat => ?_
      refine wp_mono (ih hP hn hpn (h3 x hx) hat) fun e a w ⟨s', kn', h4, h5⟩ => ?_
      cases e with
      | normal =>
        obtain ⟨y, h6, h7, h8⟩ := h4
        exact ⟨y, h7, h8, same_at h6 h5⟩
      | _ => exact ⟨s', kn', h4, h5⟩
    · exact h.elim
  | exit id => intro i s kn K cx a w _ _ _ h hat; exact wp_exit ⟨s, kn, h, hat⟩
  | ret => intro i s kn K cx a w _ _ _ h hat; exact wp_ret ⟨s, kn, h, hat⟩
  | _ => intro i s kn K cx a w _ _ _ h hat; simp only [ev] at h
end Go.Proofs.AI

namespace Go.Proofs.AI
open Go.RowKit
set_option linter.unusedVariables false
set_option linter.unusedSimpArgs false

abbrev Took := Sh × List CV
def takeRs (T : Tab) : St → List ResultVar → Option (List Took × L)
  | σ, [] => some ([], [])
  | σ, rv :: r => match takeR T σ rv with
    | some (sh, xs, o) => match takeRs T (ups σ o) r with
      | some (l, o2) => some ((sh, xs) :: l, o ++ o2)
      | none => none
    | none => none
def sigOf (p : Took) : Bool × Nat := (match p.1 with | .agg => true | _ => false, p.2.length)
def resK : List Took → Ky
  | [] => ⟨.tup [], [], []⟩
  | [(sh, xs)] => ⟨sh, xs.map SC.c, []⟩
  | l => ⟨.tup (l.map sigOf), (l.flatMap (·.2)).map SC.c, []⟩
def runRs (tmps : Array Value) : List ResultVar → Sem (List Value)
  | [] => pure []
  | rv :: r => do let v ← runR tmps rv; let vs ← runRs tmps r; pure (v :: vs)
structure Took2 (cx : Cx) (I : Nat → Prop) (U : Nat → Nat → Value) (B : Nat → Nat × Nat) (σ' : St) (a : Act) (w : World) (D0 : FP) (us : Nat → Value) (xs : List CV) (F' : Nat → FP) (N : Nat → FP) : Prop where
  rel : RelW cx I U B F' σ' a w
  rep : ∀ (o : Nat) x, xs[o]? = some x → Rep cx.P w I x (us o) (N o)
  dis : ∀ o o' b, N o b → N o' b → o = o'
  sub : ∀ o b, N o b → F' cx.n b ∧ ¬ D0 b
  old : ∀ b, D0 b → F' cx.n b
section
variable {cx : Cx} {I : Nat → Prop} {U : Nat → Nat → Value} {B : Nat → Nat × Nat} {a : Act} {w : World}
theorem takeRs_ok {T : Tab} (hT : TabOk cx.P T) : ∀ (rvs : List ResultVar) {F : Nat → FP} {σ : St} {ps : List Took} {out : L}, RelW cx I U B F σ a w → takeRs T σ rvs = some (ps, out) →
    ∃ F' N us vs, (runRs a.tmps rvs).run cx.P w = .ok vs w ∧ vs.length = ps.length ∧ tupParts (ps.map sigOf) us = vs ∧ (∀ o, o < (ps.flatMap (·.2)).length → One (us o)) ∧ (∀ p ∈ ps, isVal p.1 = true) ∧
      (∀ sh xs, ps = [(sh, xs)] → ∃ v, vs = [v] ∧ RootAt w ⟨sh, xs.map SC.c, []⟩ v us (0, 0)) ∧ Took2 cx I U B (ups σ out) a w (F cx.n) us (ps.flatMap (·.2)) F' N := by
  intro rvs
  induction rvs with
  | nil =>
    intro F σ ps out h ht
    simp only [takeRs] at ht
    injection ht with ht; injection ht with h1 h2; subst h1 h2
    exact ⟨F, fun _ => FP.none, fun _ => undef, [], rfl, rfl, rfl, fun o ho => absurd ho (Nat.not_lt_zero o), by simp, (by intro sh xs he; cases he), ⟨h, fun o x hx => by simp at hx, fun _ _ _ h => h.elim, fun _ _ h => h.elim, fun _ h => h⟩⟩
  | cons rv r ih =>
    intro F σ ps out h ht
    simp only [takeRs] at ht
    split at ht
    · rename_i sh xs o h1
      split at ht
      · rename_i l o2 h2
        injection ht with ht; injection ht with e1 e2; subst e1 e2
        obtain ⟨F1, N1, us1, v1, r1, r2, r3, g1⟩ := takeR_ok h hT h1
        obtain ⟨F2, N2, us2, vs2, s1, sl, s2, s3, s4, s5, g2⟩ := ih g1.rel h2
        let us : Nat → Value := fun o => if o < xs.length then us1 o else us2 (o - xs.length)
        have hval : isVal sh = true := r2
        have p1 := r3.val r2 (us' := us) (fun o ho => by simp [us, ho])
        have hshift : (fun j => us (xs.length + j)) = us2 := funext fun j => by simp only [us]; rw [if_neg (by omega), Nat.add_sub_cancel_left]
        have hone : ∀ o, o < xs.length → One (us1 o) := fun o ho => r3.1 o (by simpa)
        refine ⟨F2, fun o => if o < xs.length then N1 o else N2 (o - xs.length), us, v1 :: vs2, ?_, by simp [sl], ?_, ?_, ?_, ?_, ?_⟩
        · simp only [runRs, Sem.run_bind, r1, Result.andThen_ok, s1, Sem.run_pure]
        · have q1 : sh = .one ∨ sh = .agg := by cases sh <;> simp [isVal] at hval <;> simp
          rcases q1 with rfl | rfl <;> simp only [reduceCtorEq, if_false, if_true] at p1 <;> simp only [List.map_cons, sigOf, tupParts, hshift, s2] <;> rw [← p1]
        · intro o ho
          simp only [List.flatMap_cons, List.length_append] at ho
          simp only [us]
          split
          · rename_i hlt; exact hone o hlt
          · exact s3 _ (by omega)
        · intro p hp
          rcases List.mem_cons.1 hp with rfl | hp
          · exact hval
          · exact s4 p hp
        · intro sh' xs' he
          injection he with he1 he2
          subst he2
          injection he1 with he1 he3; subst he1 he3
          have : vs2 = [] := List.eq_nil_of_length_eq_zero (by simpa using sl)
          subst this
          refine ⟨v1, rfl, ⟨fun o ho => ?_, ?_⟩⟩
          · have ho' : o < xs.length := by simpa using ho
            simp only [us, ho', if_true]; exact hone o ho'
          · have h2 := r3.2
            have hus : ∀ o, o < xs.length → us o = us1 o := fun o ho => by simp [us, ho]
            cases sh with
            | one => simp only [List.length_map] at h2 ⊢; exact ⟨h2.1, by rw [hus 0 (by omega)]; exact h2.2⟩
            | agg =>
              simp only [List.length_map] at h2 ⊢
              obtain ⟨arr, a1, a2, a3⟩ := h2
              exact ⟨arr, a1, a2, fun o ho => by rw [hus o ho]; exact a3 o ho⟩
            | tup sig => simp [isVal] at hval
            | box => simp [isVal] at hval
        · rw [ups_append]
          refine ⟨g2.rel, fun o y hy => ?_, fun o o' b hb hb' => ?_, fun o b hb => ?_, fun b hb => g2.old b (g1.old b hb)⟩
          · simp only [List.flatMap_cons] at hy
            simp only [us]
            by_cases ho : o < xs.length
            · rw [List.getElem?_append_left ho] at hy
              simp only [ho, if_true]
              exact g1.rep o _ hy
            · rw [List.getElem?_append_right (by omega)] at hy
              simp only [ho, if_false]
              exact g2.rep _ _ hy
          · split at hb <;> split at hb'
            · exact g1.dis _ _ _ hb hb'
            · exact absurd (g1.sub _ _ hb).1 (g2.sub _ _ hb').2
            · exact absurd (g1.sub _ _ hb').1 (g2.sub _ _ hb).2
            · have := g2.dis _ _ _ hb hb'; omega
          · split at hb
            · exact ⟨g2.old b (g1.sub o b hb).1, (g1.sub o b hb).2.1⟩
            · exact ⟨(g2.sub _ _ hb).1, fun hd => (g2.sub _ _ hb).2 (g1.old b hd)⟩
      · cases ht
    · cases ht

/-- A box for a result. -/
def boxRes (σ : St) : List Nat → List ResultVar → Option (List SC)
  | [], [.tmp t] => match σ t with
    | some ⟨.box, cells, _⟩ => some cells
    | some ⟨.one, [.pr k 0 n], _⟩ => match σ k with
      | some ⟨.box, cells, lg⟩ => match gone lg n with
        | false => some cells
        | true => none
      | _ => none
    | _ => none
  | _, _ => none
def endR (T : Tab) (m : Nat) (pn : List Nat) (rvs : List ResultVar) (post : L → Prop) (s : L) : Prop :=
  match boxRes (mk s) pn rvs with
  | some cells => post [(m, ⟨.box, cells.map boxC, []⟩)]
  | none => match takeRs T (mk s) rvs with
    | some (ps, out) => match boxesL (ups (mk s) out) pn with
      | some lb => post ((m, resK ps) :: lb)
      | none => False
    | none => False
/-- What is asked at a function's leaving. -/
def endK (T : Tab) (m : Nat) (pn : List Nat) (rvs : List ResultVar) (post : L → Prop) : Exit → L → KN → Prop
  | .normal, s, _ => endR T m pn rvs post s
  | .ret, s, _ => endR T m pn rvs post s
  | _, _, _ => False
def valOf : List Value → Value
  | [v] => v
  | vs => .tuple vs.toArray
theorem runRs_results {fn : Func} {tmps : Array Value} {rvs : List ResultVar} (hres : fn.results = rvs.toArray) (hl : rvs.length ≤ 4) {P : Program} {w : World} {vs : List Value} (hv : vs.length = rvs.length) (h : (runRs tmps rvs).run P w = .ok vs w) :
    (results fn tmps).run P w = .ok (valOf vs) w := by
  match rvs, hl with
  | [], _ =>
    simp [runRs] at h
    subst h
    exact results_none (by simpa using hres) _ _ _
  | [r1], _ =>
    have : (results fn tmps).run P w = (runR tmps r1).run P w := by
      cases r1 <;> simp [results, hres, runR]
    rw [this]
    simp only [runRs, Sem.run_bind, Sem.run_pure] at h
    cases h1 : (runR tmps r1).run P w with
    | ok v w1 =>
      simp only [h1, Result.andThen_ok] at h
      injection h with h h2; subst h h2
      rfl
    | _ => simp [h1] at h
  | [r1, r2], _ =>
    have : (results fn tmps).run P w = ((runRs tmps [r1, r2]).run P w).andThen fun l w => .ok (.tuple l.toArray) w := by
      cases r1 <;> cases r2 <;> simp [results, hres, runRs, runR, andThen_assoc]
    rw [this, h]
    simp only [Result.andThen_ok]
    match vs, hv with
    | [_, _], _ => rfl
  | [r1, r2, r3], _ =>
    have : (results fn tmps).run P w = ((runRs tmps [r1, r2, r3]).run P w).andThen fun l w => .ok (.tuple l.toArray) w := by
      cases r1 <;> cases r2 <;> cases r3 <;> simp [results, hres, runRs, runR, andThen_assoc]
    rw [this, h]
    simp only [Result.andThen_ok]
    match vs, hv with
    | [_, _, _], _ => rfl
  | [r1, r2, r3, r4], _ =>
    have : (results fn tmps).run P w = ((runRs tmps [r1, r2, r3, r4]).run P w).andThen fun l w => .ok (.tuple l.toArray) w := by
      cases r1 <;> cases r2 <;> cases r3 <;> cases r4 <;> simp [results, hres, runRs, runR, andThen_assoc]
    rw [this, h]
    simp only [Result.andThen_ok]
    match vs, hv with
    | [_, _, _, _], _ => rfl
theorem takeRs_length {T : Tab} : ∀ (rvs : List ResultVar) {σ : St} {ps : List Took} {out : L}, takeRs T σ rvs = some (ps, out) → ps.length = rvs.length
  | [], σ, ps, out, h => by simp only [takeRs] at h; injection h with h; injection h with h1 _; subst h1; rfl
  | rv :: r, σ, ps, out, h => by
    simp only [takeRs] at h
    split at h
    · split at h
      · rename_i hr
        injection h with h; injection h with h1 _; subst h1
        simp [takeRs_length r hr]
      · cases h
    · cases h
theorem leaves_many {cx : Cx} {σ : St} {a : Act} {w : World} {fn : Func} {post : L → Prop} {T : Tab} (hT : TabOk cx.P T) (hr : At cx σ a w) (hlt : ∀ t ∈ cx.pn, t < cx.args.size) {rvs : List ResultVar} (hres : fn.results = rvs.toArray) (hl : rvs.length ≤ 4)
    {ps : List Took} {out lb : L} (ht : takeRs T σ rvs = some (ps, out)) (hlb : boxesL (ups σ out) cx.pn = some lb) (hp : post ((cx.args.size, resK ps) :: lb)) : Leaves cx fn post .ret a w := by
  obtain ⟨⟨I, U, B, F, h⟩, hpin⟩ := hr
  obtain ⟨F', N, us, vs, t1, t2, t3, t4, t5, t6, g⟩ := takeRs_ok hT rvs (held_none h) ht
  have hrun := runRs_results hres hl (by rw [t2, takeRs_length rvs ht]) t1
  have hroot : RootAt w (resK ps) (valOf vs) us (0, 0) ∧ (resK ps).sh ≠ .box ∧ (resK ps).cells = (ps.flatMap (·.2)).map SC.c := by
    match ps, vs, t2 with
    | [], [], _ => exact ⟨⟨fun o ho => absurd ho (Nat.not_lt_zero o), rfl⟩, by simp [resK], rfl⟩
    | [(sh, xs)], [v], _ =>
      obtain ⟨v', e, hr⟩ := t6 sh xs rfl
      injection e with e _; subst e
      have := t5 (sh, xs) (by simp)
      exact ⟨hr, by rintro e; simp only [resK] at e; rw [e] at this; simp [isVal] at this, by simp [resK]⟩
    | p1 :: p2 :: ps, v1 :: v2 :: vs, _ =>
      refine ⟨⟨fun o ho => t4 o (by simpa [resK] using ho), ?_⟩, by simp [resK], by simp [resK]⟩
      simp only [resK, valOf]
      rw [t3]
  obtain ⟨r1, r2, r3⟩ := hroot
  refine ⟨h.defers, valOf vs, _, hrun, hp, exit_rel g.rel hpin hlt hlb r1 r2 (by rw [r3]; simp [List.all_eq_true, isC]) (fun o y hy => ?_) g.dis (fun o b hb => (g.sub o b hb).1)⟩
  rw [r3, List.getElem?_map] at hy
  obtain ⟨y', hy', he⟩ := Option.map_eq_some_iff.1 hy
  injection he with he; subst he
  exact g.rep o _ hy'
end
/-- A function's contract, out of its walk. -/
theorem fun_ev {P : Program} {E : Env P} (hT : TabOk P E.T) (hm : P.follows .mixedOrders = true) {f m : Nat} {fn : Func} {c : Code} {rvs : List ResultVar} {ins : L} {post : L → Prop} (hf : P.funcs[f]? = some fn) (hb : fn.body = some c) (hn : (fn.name == "runtime.NumGoroutine") = false) (hnt : fn.ntmps = E.n) (hmn : m ≤ E.n)
    (hbx : ∀ t ∈ E.pn, t < m) (hres : fn.results = rvs.toArray) (hl : rvs.length ≤ 4) (h : ev E c 0 ins [] (endK E.T m E.pn rvs post)) : FunOK P f m E.pn ins post := by
  refine fun_ok hf hb hn (by omega) hbx fun cx a w hP hn hpn hsz hat => ?_
  refine wp_mono (ev_ok hT hm c hP (hn.trans hnt) hpn h hat) fun e a w ⟨s, kn, h1, h2⟩ => ?_
  subst hP
  have key : ∀ {x : Prop}, endR E.T m E.pn rvs post s → Leaves cx fn post .ret a w := fun {_} h1 => by
    unfold endR at h1
    split at h1
    · rename_i cells hb
      have hpn0 : E.pn = [] := by
        unfold boxRes at hb
        split at hb
        · assumption
        · cases hb
      unfold boxRes at hb
      split at hb
      · rename_i t _ _
        split at hb
        · rename_i cells' lg hK
          injection hb with hb; subst hb
          exact leaves_box h2 (by rw [hpn]; exact hpn0) hres hK rfl (by rw [hsz]; exact h1)
        · rename_i k n lg hK
          split at hb
          · rename_i cells' lg' hK'
            split at hb
            · rename_i hgn
              injection hb with hb; subst hb
              exact leaves_boxP h2 (by rw [hpn]; exact hpn0) hres hK hK' rfl hgn (by rw [hsz]; exact h1)
            · cases hb
          · cases hb
        · cases hb
      · cases hb
    · split at h1
      · rename_i ps out ht
        split at h1
        · rename_i lb hlb
          refine leaves_many hT h2 (by rw [hpn, hsz]; exact hbx) hres hl ht (by rw [hpn]; exact hlb) (by rw [hsz]; exact h1)
        · exact h1.elim
      · exact h1.elim
  cases e with
  | normal => exact (key (x := True) h1).both
  | ret => exact key (x := True) h1
  | _ => exact h1.elim
theorem FunOK.to {P : Program} {f m : Nat} {bx : List Nat} {ins out : L} (h : FunOK P f m bx ins (fun l => sameL l out)) : FunOK P f m bx ins (· = out) :=
  fun F0 I0 args w hm hr => (h F0 I0 args w hm hr).mono fun v w' ⟨l, h1, h2⟩ => ⟨out, rfl, same_rel h1 h2⟩
/-- How long what is handed in may be. -/
def lenC : SC → Prop
  | .c (.sh _ r) => r.n ≤ 9223372036854775807
  | .c (.ow _ r) => r.n ≤ 9223372036854775807
  | _ => True
def lens : L → Prop
  | [] => True
  | (k, K) :: r => (∀ x ∈ K.cells, lenC x) ∧ lens r
theorem lenC_ok {P : Program} {w : World} {I : Nat → Prop} {σ : St} {U : Nat → Nat → Value} {B : Nat → Nat × Nat} {x : SC} {v : Value} {G : FP} (h : SCRep P w I σ U B x v G) : lenC x := by
  cases x with
  | c x =>
    cases x with
    | sh e r => obtain ⟨A, c, us, _, h1, h2, _⟩ := Rep.sh_inv h; exact h2
    | ow e r =>
      rcases Rep.ow_inv h with ⟨_, h0⟩ | ⟨g, cap, cur, us, G, _, _, _, h3, h4, _⟩
      · simp only [lenC]; omega
      · simp only [lenC, maxLen] at *; omega
    | _ => trivial
  | _ => trivial
def nodupK : L → Bool
  | [] => true
  | (k, _) :: r => !(r.any fun p => p.1 == k) && nodupK r
theorem lens_ok {cx : Cx} {a : Act} {w : World} {l : L} (h : Rel cx (mk l) a w) : nodupK l = true → lens l := by
  obtain ⟨I, U, B, F, h⟩ := h
  have gen : ∀ (l1 l2 : L), l = l1 ++ l2 → nodupK l = true → lens l2 := by
    intro l1 l2
    induction l2 generalizing l1 with
    | nil => intro _ _; trivial
    | cons p r ih =>
      obtain ⟨k, K⟩ := p
      intro he hn
      refine ⟨fun x hx => ?_, ih (l1 ++ [(k, K)]) (by simp [he]) hn⟩
      have hk : mk l k = some K := by
        subst he
        clear ih h
        induction l1 with
        | nil => simp [mk, up]
        | cons q l1 ih1 =>
          obtain ⟨d, D⟩ := q
          simp only [List.cons_append, nodupK, Bool.and_eq_true, Bool.not_eq_true'] at hn
          have hne : k ≠ d := by
            rintro rfl
            have := hn.1
            simp at this
          simp only [List.cons_append, mk, up, hne, if_false]
          exact ih1 hn.2
      obtain ⟨_, _, ⟨N, n1, _⟩, _⟩ := h.key k K hk
      obtain ⟨o, ho⟩ := List.getElem?_of_mem hx
      exact lenC_ok (n1 o x ho)
  exact gen [] l rfl
/-- A function's contract, out of its walk. -/
theorem fun_to {P : Program} {E : Env P} (hT : TabOk P E.T) (hm : P.follows .mixedOrders = true) {f m : Nat} {fn : Func} {c : Code} {rvs : List ResultVar} {ins out : L} (hf : P.funcs[f]? = some fn) (hb : fn.body = some c) (hnt : fn.ntmps = E.n) (hres : fn.results = rvs.toArray)
    (hck : ((fn.name != "runtime.NumGoroutine") && Nat.ble m E.n && E.pn.all (fun t => Nat.blt t m) && Nat.ble rvs.length 4 && nodupK ins) = true) (h : lens ins → ev E c 0 ins [] (endK E.T m E.pn rvs fun l => sameL l out)) : FunOK P f m E.pn ins (· = out) := by
  simp only [Bool.and_eq_true, List.all_eq_true, Nat.ble_eq, Nat.blt_eq] at hck
  obtain ⟨⟨⟨⟨k1, k2⟩, k3⟩, k4⟩, k5⟩ := hck
  have hn : (fn.name == "runtime.NumGoroutine") = false := by simpa using k1
  intro F0 I0 args w hs hr
  exact (fun_ev hT hm hf hb hn hnt k2 (fun t ht => k3 t ht) hres k4 (h (lens_ok hr k5))).to F0 I0 args w hs hr
/-- One of two results. -/
def altP (q : Bool) (o2 out : L) (l : L) : Prop := (q = true ∧ sameL l o2) ∨ (q = false ∧ sameL l out)
/-- The same, of a function with one of two results. -/
theorem fun_alt {P : Program} {E : Env P} (hT : TabOk P E.T) (hm : P.follows .mixedOrders = true) {f m : Nat} {fn : Func} {c : Code} {rvs : List ResultVar} {ins out o2 : L} {q : Bool} (hf : P.funcs[f]? = some fn) (hb : fn.body = some c) (hnt : fn.ntmps = E.n) (hres : fn.results = rvs.toArray)
    (hck : ((fn.name != "runtime.NumGoroutine") && Nat.ble m E.n && E.pn.all (fun t => Nat.blt t m) && Nat.ble rvs.length 4 && nodupK ins) = true) (h : lens ins → ev E c 0 ins [] (endK E.T m E.pn rvs (altP q o2 out))) : FunOK P f m E.pn ins (· = bif q then o2 else out) := by
  simp only [Bool.and_eq_true, List.all_eq_true, Nat.ble_eq, Nat.blt_eq] at hck
  obtain ⟨⟨⟨⟨k1, k2⟩, k3⟩, k4⟩, k5⟩ := hck
  have hn : (fn.name == "runtime.NumGoroutine") = false := by simpa using k1
  intro F0 I0 args w hs hr
  have := fun_ev hT hm hf hb hn hnt k2 (fun t ht => k3 t ht) hres k4 (h (lens_ok hr k5)) F0 I0 args w hs hr
  refine this.mono fun v w' ⟨l, h1, h2⟩ => ⟨_, rfl, ?_⟩
  rcases h1 with ⟨rfl, h1⟩ | ⟨rfl, h1⟩
  · exact same_rel h1 h2
  · exact same_rel h1 h2
end Go.Proofs.AI

namespace Go.Proofs.AI
open Go.RowKit
set_option linter.unusedVariables false
set_option linter.unusedSimpArgs false

def fieldOf (P : Program) (f : Field) : Option (Nat × Nat × Bool) :=
  match P.info? f.type with
  | some inf => match P.underlying f.type with
    | some d => if 0 < inf.size then some (f.offset, inf.size, d.isRow) else none
    | none => none
  | none => none
def fieldsOf (P : Program) : List Field → Option (List (Nat × Nat × Bool))
  | [] => some []
  | f :: r => match fieldOf P f with
    | some x => match fieldsOf P r with
      | some l => some (x :: l)
      | none => none
    | none => none
def kindOf' (P : Program) : TypeDesc → Option (TK × List (Nat × Nat × Bool))
  | .bool => some (.bool, [])
  | .int k => some (.int k, [])
  | .string => some (.str, [])
  | .slice e => some (.sl e, [])
  | .struct fs => match fieldsOf P fs.toList with
    | some l => some (.st, l)
    | none => none
  | d => if d.isRow then none else some (.oth, [])
/-- The table that a program's own types give; no structs compared. -/
def tabOf (P : Program) : Tab := fun t =>
  match P.info? t with
  | some inf => match inf.zero with
    | some z => match P.underlying t with
      | some d => match kindOf' P d with
        | some (k, l) => if (z.cells.toList.all (·.oneCell')) && z.cells.toList.length == inf.size then some ⟨k, inf.size, inf.bytes, l, z.cells.toList, [], []⟩ else none
        | none => none
      | none => none
    | none => none
  | none => none
theorem fieldsOf_ok {P : Program} : ∀ (fs : List Field) {l : List (Nat × Nat × Bool)}, fieldsOf P fs = some l → fs.length = l.length ∧ ∀ (j : Nat) (f : Field), fs[j]? = some f → ∃ (s : Nat) (b : Bool), l[j]? = some (f.offset, s, b) ∧ (∃ inf, P.info? f.type = some inf ∧ inf.size = s ∧ 0 < s) ∧ (∃ d, P.underlying f.type = some d ∧ d.isRow = b) := by
  intro fs
  induction fs with
  | nil => intro l h; simp only [fieldsOf] at h; injection h with h; subst h; exact ⟨rfl, fun j f hf => by simp at hf⟩
  | cons f r ih =>
    intro l h
    simp only [fieldsOf] at h
    split at h
    · rename_i x hx
      split at h
      · rename_i l' hl
        injection h with h; subst h
        obtain ⟨h1, h2⟩ := ih hl
        refine ⟨by simp [h1], fun j g hg => ?_⟩
        cases j with
        | zero =>
          simp at hg; subst hg
          unfold fieldOf at hx
          split at hx
          · rename_i inf hinf
            split at hx
            · rename_i d hd
              split at hx
              · rename_i hp
                injection hx with hx; subst hx
                exact ⟨_, _, rfl, ⟨inf, hinf, rfl, hp⟩, d, hd, rfl⟩
              · cases hx
            · cases hx
          · cases hx
        | succ j => simpa using h2 j g (by simpa using hg)
      · cases h
    · cases h
theorem tabOf_ok {P : Program} : TabOk P (tabOf P) := by
  intro t i h
  unfold tabOf at h
  split at h
  · rename_i inf hinf
    split at h
    · rename_i z hz
      split at h
      · rename_i d hd
        split at h
        · rename_i k l hk
          split at h
          · rename_i hc
            injection h with h; subst h
            simp only [Bool.and_eq_true, List.all_eq_true, beq_iff_eq] at hc
            refine ⟨⟨inf, z, hinf, rfl, rfl, hz, rfl, fun v hv => hc.1 v hv, hc.2⟩, fun he => absurd rfl he, ?_⟩
            simp only
            cases d <;> simp only [kindOf', TypeDesc.isRow] at hk <;> first
              | (injection hk with hk; injection hk with h1 h2; subst h1 h2; exact hd)
              | (injection hk with hk; injection hk with h1 h2; subst h1 h2; exact ⟨_, hd, rfl⟩)
              | skip
            all_goals first
              | (split at hk
                 · rename_i l' hl
                   injection hk with hk; injection hk with h1 h2; subst h1 h2
                   obtain ⟨g1, g2⟩ := fieldsOf_ok _ hl
                   exact ⟨_, hd, by simpa using g1, fun j f hf => g2 j f (by simpa using hf)⟩
                 · cases hk)
              | (simp at hk; done)
              | (simp at hk; obtain ⟨rfl, rfl⟩ := hk; exact ⟨_, hd, rfl⟩)
          · cases h
        · cases h
      · cases h
    · cases h
  · cases h
theorem tabOf_els {P : Program} {t : TypeId} {i : TyI} (h : tabOf P t = some { i with els := [] }) : TyOk P t i := by
  have := tabOf_ok t _ h
  exact ⟨this.info, this.eqs, this.desc⟩
end Go.Proofs.AI

namespace Go.Proofs.AI
open Go.RowKit
set_option linter.unusedVariables false
set_option linter.unusedSimpArgs false

def ckOf : Option TypeDesc → CK → Bool
  | some .bool, .b => true
  | some (.int k), .n k' => decide (k = k')
  | _, _ => false
def eqFs (P : Program) : List CK → Nat → List Field → Bool
  | [], _, [] => true
  | k :: ks, j, f :: fs => (f.name != "_") && f.offset == j && ckOf (P.underlying f.type) k && eqFs P ks (j + 1) fs
  | _, _, _ => false
def eqT (P : Program) (t : TypeId) (ks : List CK) : Bool := !P.stoodInHeld t && !P.eqGuardType P.depth t && match P.underlying t with
  | some (.struct fs) => eqFs P ks 0 fs.toList
  | _ => false
theorem run_part_ck {P : Program} {w : World} {t : TypeId} {k : CK} (h : ckOf (P.underlying t) k = true) {xs : Array Value} {j : Nat} {v : Value} (hx : xs[j]? = some v) : (part t xs j).run P w = .ok v w := by
  unfold ckOf at h
  split at h
  · rename_i hu; simp [part, isAgg, run_underlying hu, TypeDesc.isRow, hx]
  · rename_i hu; simp [part, isAgg, run_underlying hu, TypeDesc.isRow, hx]
  · cases h
theorem run_eq_ck {P : Program} {w : World} {t : TypeId} {k : CK} (h : ckOf (P.underlying t) k = true) {u v : Value} (hu : isCK k u) (hv : isCK k v) (d : Nat) : (Op.equalIn (d + 1) t u v).run P w = .ok (eqC u v) w := by
  unfold ckOf at h
  split at h
  · rename_i ht
    obtain ⟨x, rfl⟩ := hu; obtain ⟨y, rfl⟩ := hv
    exact run_equalIn_bool w d t x y ht
  · rename_i ht
    obtain ⟨x, rfl⟩ := hu; obtain ⟨y, rfl⟩ := hv
    exact run_equalIn_int w d t _ _ x y ht
  · cases h
theorem eqL_cons {x y : Value} {xs ys : List Value} (h : xs.length = ys.length) : eqL (x :: xs) (y :: ys) = (eqC x y && eqL xs ys) := by
  cases xs <;> cases ys <;> simp_all [eqL]
theorem areCK_length : ∀ {ks : List CK} {xs : List Value}, areCK ks xs → ks.length = xs.length
  | [], [], _ => rfl
  | [], _ :: _, h => h.elim
  | _ :: _, [], h => h.elim
  | _ :: ks, _ :: xs, h => by simp [areCK_length h.2]
theorem run_eqFields {P : Program} {w : World} {xs ys : Array Value} (d : Nat) : ∀ (ks : List CK) (j : Nat) (fs : List Field) (a b : List Value), eqFs P ks j fs = true → xs.toList.drop j = a → ys.toList.drop j = b → areCK ks a → areCK ks b →
    (Op.eqFields (d + 1) xs ys fs).run P w = .ok (eqL a b) w
  | [], j, [], [], [], _, _, _, _, _ => by simp [Op.eqFields, eqL]
  | [], j, [], _ :: _, _, _, _, _, h, _ => h.elim
  | [], j, [], [], _ :: _, _, _, _, _, h => h.elim
  | [], j, _ :: _, _, _, h, _, _, _, _ => by simp [eqFs] at h
  | _ :: _, j, [], _, _, h, _, _, _, _ => by simp [eqFs] at h
  | _ :: _, j, _ :: _, [], _, _, _, _, h, _ => h.elim
  | _ :: _, j, _ :: _, _ :: _, [], _, _, _, _, h => h.elim
  | k :: ks, j, f :: fs, x :: a, y :: b, h, hx, hy, ha, hb => by
    simp only [eqFs, Bool.and_eq_true, bne_iff_ne, beq_iff_eq] at h
    obtain ⟨⟨⟨h1, h2⟩, h3⟩, h4⟩ := h
    have gx : xs[j]? = some x := by
      have := congrArg (·[0]?) hx
      simpa using this
    have gy : ys[j]? = some y := by
      have := congrArg (·[0]?) hy
      simpa using this
    have dx : xs.toList.drop (j + 1) = a := by rw [← List.drop_drop, hx]; rfl
    have dy : ys.toList.drop (j + 1) = b := by rw [← List.drop_drop, hy]; rfl
    have hl : a.length = b.length := by rw [← areCK_length ha.2, ← areCK_length hb.2]
    rw [eqL_cons hl]
    simp only [Op.eqFields, h1, ne_eq, not_false_eq_true, if_true, Sem.run_bind, h2, run_part_ck h3 gx, run_part_ck h3 gy, Result.andThen_ok, run_eq_ck h3 ha.1 hb.1 d]
    cases hc : eqC x y
    · simp
    · simpa using run_eqFields d ks (j + 1) fs a b h4 dx dy ha.2 hb.2
theorem eqT_ok {P : Program} {t : TypeId} {ks : List CK} (h : eqT P t ks = true) (w : World) (xs ys : Array Value) (ex ey : Operand) (hx : areCK ks xs.toList) (hy : areCK ks ys.toList) :
    (do eqGuard .eql t ex ey (.agg xs) (.agg ys); binOp .eql t (.agg xs) (.agg ys) : Sem Value).run P w = .ok (.bool (eqL xs.toList ys.toList)) w ∧
    (do eqGuard .neq t ex ey (.agg xs) (.agg ys); binOp .neq t (.agg xs) (.agg ys) : Sem Value).run P w = .ok (.bool (!eqL xs.toList ys.toList)) w := by
  simp only [eqT, Bool.and_eq_true, Bool.not_eq_true'] at h
  obtain ⟨⟨h1, h2⟩, h3⟩ := h
  split at h3
  · rename_i fs hu
    have hf : P.fieldsOf t = fs := by simp [Program.fieldsOf, hu]
    have he : (Op.equalIn 10000 t (.agg xs) (.agg ys)).run P w = .ok (eqL xs.toList ys.toList) w := by
      rw [run_equalIn_struct w 9999 t xs ys (by rw [hf]; exact hu) h1, hf]
      exact run_eqFields 9998 ks 0 fs.toList _ _ h3 rfl rfl hx hy
    constructor
    · simp only [Sem.run_bind, run_eqGuard_agg _ _ _ _ _ _ _ h2, Result.andThen_ok, run_eql_struct, he]
    · simp only [Sem.run_bind, run_eqGuard_agg _ _ _ _ _ _ _ h2, Result.andThen_ok, run_neq_struct, he]
  · cases h3
theorem tabOf_eq {P : Program} {t : TypeId} {i : TyI} (h : tabOf P t = some { i with els := [], eq := [] }) (he : (i.eq.isEmpty || eqT P t i.eq) = true) : TyOk P t i := by
  have := tabOf_ok t _ h
  refine ⟨this.info, fun hne w xs ys ex ey h1 h2 => ?_, this.desc⟩
  have hq : eqT P t i.eq = true := by
    cases hi : i.eq with
    | nil => exact absurd hi hne
    | cons a b => rw [hi] at he; simpa using he
  exact eqT_ok hq w xs ys ex ey h1 h2
end Go.Proofs.AI

namespace Go.Proofs.AI
open Go.RowKit
set_option linter.unusedVariables false
set_option linter.unusedSimpArgs false

/-- Plain arguments, one cell each. -/
def plainIns : Nat → List CV → L
  | _, [] => []
  | j, y :: r => (j, ⟨.one, [.c y], []⟩) :: plainIns (j + 1) r
/-- A value that a cell stands for, one at most. -/
def valOfC : CV → Option Value
  | .b x => some (.bool x)
  | .n k x => some (.int k x)
  | .s x => some (.string x)
  | _ => none
def valsOf : List CV → Option (List Value)
  | [] => some []
  | y :: r => match valOfC y, valsOf r with
    | some v, some l => some (v :: l)
    | _, _ => none
theorem valOfC_ok {P : Program} {w : World} {I : Nat → Prop} {y : CV} {v u : Value} {G : FP} (h : valOfC y = some v) (hr : Rep P w I y u G) : u = v := by
  cases y <;> simp [valOfC] at h <;> subst h <;> cases hr <;> rfl
theorem plainIns_at : ∀ (l : List CV) (j0 j : Nat), mk (plainIns j0 l) j = if j < j0 then none else (l[j - j0]?).map fun y => ⟨.one, [.c y], []⟩
  | [], j0, j => by simp [plainIns, mk]
  | y :: r, j0, j => by
    simp only [plainIns, mk, up]
    by_cases h : j = j0
    · subst h; simp
    · simp only [h, if_false]
      rw [plainIns_at r (j0 + 1) j]
      by_cases h2 : j < j0
      · simp [h2, show j < j0 + 1 by omega]
      · rw [if_neg h2, if_neg (by omega), show j - j0 = (j - (j0 + 1)) + 1 by omega]; simp
theorem valsOf_length : ∀ {l : List CV} {vs : List Value}, valsOf l = some vs → vs.length = l.length
  | [], vs, h => by simp [valsOf] at h; subst h; rfl
  | y :: r, vs, h => by
    simp only [valsOf] at h
    split at h
    · rename_i v l h1 h2
      injection h with h; subst h
      simp [valsOf_length h2]
    · cases h
theorem valsOf_at : ∀ {l : List CV} {vs : List Value}, valsOf l = some vs → ∀ (j : Nat) y, l[j]? = some y → ∃ v, vs[j]? = some v ∧ valOfC y = some v
  | [], vs, h, j, y, hj => by simp at hj
  | z :: r, vs, h, j, y, hj => by
    simp only [valsOf] at h
    split at h
    · rename_i v l h1 h2
      injection h with h; subst h
      cases j with
      | zero => simp at hj; subst hj; exact ⟨v, rfl, h1⟩
      | succ j => simpa using valsOf_at h2 j y (by simpa using hj)
    · cases h
theorem Fr.below {w w' : World} (h : Below w.heap.size w w') (F : CP) : Fr w w' F :=
  ⟨h.os, h.tape, h.output, h.size, fun b hb _ => h.block b hb, fun b cs e fr _ hb => by
    refine ⟨cs, ?_, fun _ _ => rfl⟩
    rw [h.block b]
    · exact hb
    · rcases Nat.lt_or_ge b w.heap.size with h1 | h1
      · exact h1
      · rw [Array.getElem?_eq_none h1] at hb; cases hb⟩
/-- A contract of the library's own kind, over plain values. -/
theorem FunOK.plain {P : Program} {f : FuncId} {fn : Func} {c : Code} {ys : List CV} {vs : List Value} {z : CV} {v : Value} (hf : P.funcs[f]? = some fn) (hb : fn.body = some c) (hn : (fn.name == "runtime.NumGoroutine") = false)
    (hv : valsOf ys = some vs) (hz : valOfC z = some v) (h : ∀ w, Calls P f vs.toArray w fun e w' => e = .returned v ∧ Below w.heap.size w w') :
    FunOK P f ys.length [] (plainIns 0 ys) (· = [(ys.length, ⟨.one, [.c z], []⟩)]) := by
  intro F0 I0 args w hs ⟨I, U, B, F, hr⟩
  have hargs : args = vs.toArray := by
    refine Array.ext (by simp [hs, valsOf_length hv]) fun j h1 h2 => ?_
    have hj : j < ys.length := by omega
    obtain ⟨u, e1, e2⟩ := valsOf_at hv j _ (List.getElem?_eq_getElem hj)
    obtain ⟨_, hroot, ⟨N, n1, _⟩, _⟩ := hr.key j ⟨.one, [.c ys[j]], []⟩ (by rw [plainIns_at]; simp [hj])
    have hrep : Rep P w I ys[j] (U j 0) (N 0) := n1 0 _ rfl
    have := valOfC_ok e2 hrep
    have hroot : args.getD j undef = U j 0 := hroot.2.2
    have e3 : vs[j]'(by simpa using h2) = u := by
      have := List.getElem?_eq_getElem (l := vs) (i := j) (by simpa using h2)
      rw [e1] at this; exact (Option.some.inj this).symm
    simp only [List.getElem_toArray, e3]
    rw [← this, ← hroot, Array.getD_eq_getD_getElem?, Array.getElem?_eq_getElem h1]; rfl
  have hrun : (callFunc f args).run P w = .ok (.enter f args) w := by
    have hn' : fn.name ≠ "runtime.NumGoroutine" := by simpa using hn
    simp [callFunc, program, Sem.run, hf, hn', hb]
  unfold CallsTo
  rw [hrun]
  subst hargs
  refine Calls.mono (h w) fun e w' ⟨h1, h2⟩ => ⟨v, h1, _, rfl, ?_⟩
  have hzr : ∀ (I : Nat → Prop) F, Rep P w' I z v F := fun I F => by
    cases z <;> simp [valOfC] at hz <;> subst hz <;> first | exact .b | exact .n | exact .s
  refine ⟨I, fun _ _ => v, fun _ => (0, 0), fun _ => FP.none, ⟨by simp [valsOf_length hv], rfl, fun t K hK => ?_, fun _ _ _ h => h.elim, fun _ _ h => h.elim, fun _ _ h => h.elim, fun b hb => ?_, hr.ro0, hr.roN, Fr.below h2 _⟩⟩
  · simp only [mk, up] at hK
    split at hK
    · rename_i ht
      subst ht; cases hK
      refine ⟨by simp, ⟨⟨fun _ _ => (hzr (fun _ => False) FP.none).one, rfl, ?_⟩, ⟨fun _ => FP.none, fun o x hx => ?_, fun _ _ _ h => h.elim, fun _ _ h => h.elim⟩, fun b hb => by cases hb.1⟩⟩
      · have hl := valsOf_length hv
        simp [Array.getD_eq_getD_getElem?, hl]
      · cases o with
        | zero => simp at hx; subst hx; exact hzr _ _
        | succ o => simp at hx
    · cases hK
  · exact Nat.lt_of_lt_of_le (hr.ro b hb) h2.size
end Go.Proofs.AI

namespace Go.Proofs.AI
open Go.RowKit Go.Proofs
set_option linter.unusedVariables false
set_option linter.unusedSimpArgs false
theorem rel_start {P : Program} {ins : L} (args : Array Value) (w : World) (U : Nat → Nat → Value)
    (h : ∀ t K, mk ins t = some K → t < args.size ∧ RootAt w K (args.getD t undef) (U t) (0, 0) ∧ K.sh ≠ .box ∧ ∀ o x, K.cells[o]? = some x → ∃ c, x = .c c ∧ Rep P w (fun b => b < w.heap.size) c (U t o) FP.none) :
    Rel ⟨P, args.size, w, fun _ _ => False, fun b => b < w.heap.size, [], #[]⟩ (mk ins) ⟨args, []⟩ w := by
  refine ⟨fun b => b < w.heap.size, U, fun _ => (0, 0), fun _ => FP.none, ⟨rfl, rfl, fun t K hK => ?_, fun _ _ _ h => h.elim, fun _ _ h => h.elim, fun _ _ h => h.elim, fun _ h => h, fun _ h => h, fun _ h => .inl h, Fr.refl _ _⟩⟩
  obtain ⟨h1, h2, h3, h4⟩ := h t K hK
  refine ⟨h1, ⟨h2, ⟨fun _ => FP.none, fun o x hx => ?_, fun _ _ _ h => h.elim, fun _ _ h => h.elim⟩, fun b hb => (h3 hb.1).elim⟩⟩
  obtain ⟨c, rfl, hr⟩ := h4 o x hx
  exact hr
theorem FunOK.bool {P : Program} {f : FuncId} {fn : Func} {c : Code} (hf : P.funcs[f]? = some fn) (hb : fn.body = some c) (hn : (fn.name == "runtime.NumGoroutine") = false) {ins : L} {m : Nat} {b : Bool}
    (hF : FunOK P f m [] ins (· = [(m, ⟨.one, [.c (.b b)], []⟩)])) (args : Array Value) (hs : args.size = m) (w : World) (hr : Rel ⟨P, m, w, fun _ _ => False, fun b => b < w.heap.size, [], #[]⟩ (mk ins) ⟨args, []⟩ w) :
    Calls P f args w fun e w' => e = .returned (.bool b) ∧ Below w.heap.size w w' := by
  have h := hF _ _ args w hs hr
  have hn' : fn.name ≠ "runtime.NumGoroutine" := by simpa using hn
  have hrun : (callFunc f args).run P w = .ok (.enter f args) w := by simp [callFunc, program, Sem.run, hf, hn', hb]
  unfold CallsTo at h
  rw [hrun] at h
  refine Calls.mono h fun e w' ⟨v, he, l, hl, I, U, B, F, hrel⟩ => ?_
  subst hl
  obtain ⟨_, hroot, ⟨N, n1, _⟩, _⟩ := hrel.key m ⟨.one, [.c (.b b)], []⟩ (by simp [mk, up])
  have hv : v = U m 0 := by
    have : (args.push v).getD m undef = U m 0 := hroot.2.2
    rw [← this, Array.getD_eq_getD_getElem?, ← hs]; simp
  have hrep : Rep P w' I (.b b) (U m 0) (N 0) := n1 0 _ rfl
  have hu : U m 0 = .bool b := by
    generalize U m 0 = u at hrep
    cases hrep; rfl
  refine ⟨by rw [he, hv, hu], ⟨hrel.fr.os, hrel.fr.tape, hrel.fr.output, hrel.fr.size, fun k hk => hrel.fr.block k hk fun q h => h⟩⟩
theorem rep_ints {P : Program} {w : World} {e : TypeId} {k : IntKind} {a : Addr} {len cap : Nat} {zs : List Int} (he : P.cellsOf e = 1) (hlc : len ≤ cap) (hcm : cap ≤ maxLen) (hz : zs.length = len) (hc : ∀ i, i < len → w.cell? (a.add i) = some (.int k (zs.getD i 0))) {F : FP} :
    Rep P w (fun b => b < w.heap.size) (.sh e (typ 0 (fun y => [.n k y]) zs)) (.slice (some a) len cap) F := by
  subst hz
  have hblk : 0 < zs.length → a.block < w.heap.size := fun h => by
    have h0 := hc 0 h
    exact block_lt_of_cell h0
  refine Rep.sh (es := typ 0 (fun y => [.n k y]) zs) (fun i _ => .int k (zs.getD i 0)) hlc (by have := hcm; unfold maxLen at this; show zs.length ≤ _; omega) (fun h => ⟨a, rfl, hblk h, fun i row hrow o ho => ?_⟩) (fun i row hrow => ?_) (fun i row o x hrow hx => ?_)
  all_goals
    rw [typ_l, List.getElem?_map] at hrow
    obtain ⟨z, hz, rfl⟩ := Option.map_eq_some_iff.1 hrow
    have hi := (List.getElem?_eq_some_iff.1 hz).1
    have hg : zs.getD i 0 = z := by rw [List.getD_eq_getElem?_getD, hz]; rfl
  · have ho : o = 0 := by simpa using ho
    subst ho
    rw [he]; simpa using hc i hi
  · simp [he]
  · cases o with
    | zero => simp at hx; subst hx; rw [hg]; exact .n
    | succ o => simp at hx
end Go.Proofs.AI
