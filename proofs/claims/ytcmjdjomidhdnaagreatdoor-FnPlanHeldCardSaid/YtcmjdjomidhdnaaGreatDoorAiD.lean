/- A function, entered and left. Conditions: none. -/
import Derived.Test.YtcmjdjomidhdnaaGreatDoorAiC
namespace Go.Proofs.AI
open Go.RowKit
set_option linter.unusedVariables false
set_option linter.unusedSimpArgs false

/-- What lies in the boxes that were handed in. -/
def boxesL (σ : St) : List Nat → Option L
  | [] => some []
  | j :: r => match σ j with
    | some K => if K.sh = .box then match boxesL σ r with
      | some l => some ((j, ⟨.box, K.cells.map boxC, []⟩) :: l)
      | none => none
      else none
    | none => none
theorem boxesL_at {σ : St} : ∀ (bx : List Nat) {l : L}, boxesL σ bx = some l → ∀ j K, mk l j = some K → j ∈ bx ∧ ∃ K0, σ j = some K0 ∧ K0.sh = .box ∧ K = ⟨.box, K0.cells.map boxC, []⟩ := by
  intro bx
  induction bx with
  | nil =>
    intro l h j K hK
    simp only [boxesL] at h
    injection h with h; subst h
    simp [mk] at hK
  | cons i r ih =>
    intro l h j K hK
    simp only [boxesL] at h
    split at h
    · rename_i K0 hK0
      split at h
      · rename_i hb
        split at h
        · rename_i l' hl
          injection h with h; subst h
          simp only [mk, up] at hK
          by_cases e : j = i
          · subst e
            rw [if_pos rfl] at hK
            injection hK with hK
            exact ⟨List.mem_cons_self .., K0, hK0, hb, hK.symm⟩
          · rw [if_neg e] at hK
            obtain ⟨h1, h2⟩ := ih hl j K hK
            exact ⟨List.mem_cons_of_mem _ h1, h2⟩
        · cases h
      · cases h
    · cases h
section
variable {cx : Cx} {I : Nat → Prop} {U : Nat → Nat → Value} {B : Nat → Nat × Nat} {F : Nat → FP} {σ : St} {a : Act} {w : World}
theorem exit_rel (h : RelW cx I U B F σ a w) (hpin : ∀ t ∈ cx.pn, a.tmps.getD t undef = cx.args.getD t undef) (hlt : ∀ t ∈ cx.pn, t < cx.args.size) {lb : L} (hlb : boxesL σ cx.pn = some lb) {Kr : Ky} {v : Value} {us : Nat → Value} {N : Nat → FP}
    (hroot : RootAt w Kr v us (0, 0)) (hsh : Kr.sh ≠ .box) (hc : Kr.cells.all isC = true) (hrep : ∀ (o : Nat) y, Kr.cells[o]? = some (.c y) → Rep cx.P w I y (us o) (N o)) (hdis : ∀ o o' b, N o b → N o' b → o = o') (hsub : ∀ o b, N o b → F cx.n b) :
    Rel ⟨cx.P, cx.args.size + 1, cx.w0, cx.F0, cx.I0, cx.pn, cx.args⟩ (mk ((cx.args.size, Kr) :: lb)) ⟨cx.args.push v, []⟩ w := by
  let m := cx.args.size
  let U' : Nat → Nat → Value := fun t => if t = m then us else U t
  let B' : Nat → Nat × Nat := fun t => if t = m then (0, 0) else B t
  let F' : Nat → FP := fun t => if t = m then (fun b => ∃ o, N o b) else if t ∈ cx.pn ∧ (σ t).isSome = true then F t else FP.none
  have hne : ∀ {t}, t ∈ cx.pn → t ≠ m := fun {t} ht e => by have := hlt t ht; omega
  have Fat : ∀ t b, F' t b → (t = m ∧ ∃ o, N o b) ∨ (t ≠ m ∧ t ∈ cx.pn ∧ (∃ K, σ t = some K) ∧ F t b) := fun t b hb => by
    simp only [F'] at hb
    split at hb
    · exact .inl ⟨‹_›, hb⟩
    · split at hb
      · rename_i h1 h2
        refine .inr ⟨h1, h2.1, ?_, hb⟩
        cases hk : σ t with
        | none => rw [hk] at h2; cases h2.2
        | some K => exact ⟨K, rfl⟩
      · exact hb.elim
  refine ⟨I, U', B', F', by simp, rfl, fun t K hK => ?_, fun t t' b h1 h2 => ?_, fun t b hb => ?_, fun t b hb => ?_, h.ro, h.ro0, h.roN, h.fr⟩
  · simp only [mk, up] at hK
    split at hK
    · rename_i e
      injection hK with hK; subst hK
      subst e
      refine ⟨Nat.lt_succ_self _, ?_⟩
      have hv : (cx.args.push v).getD cx.args.size undef = v := by simp [Array.getD_eq_getD_getElem?]
      rw [hv]
      refine ⟨by simpa [U', B', m] using hroot, ⟨N, fun o y hy => ?_, hdis, fun o b hb => ⟨?_, fun hr => hsh hr.1⟩⟩, fun b hb => absurd hb.1 hsh⟩
      · have hic := List.all_eq_true.1 hc y (List.mem_of_getElem? hy)
        cases y with
        | c z =>
          simp only [U', m, if_true]
          exact hrep o z hy
        | _ => simp [isC] at hic
      · simp only [F', m, if_true]; exact ⟨o, hb⟩
    · rename_i e
      obtain ⟨h1, K0, h2, h3, rfl⟩ := boxesL_at _ hlb t K hK
      obtain ⟨htn, hroot0, ⟨N0, n1, n2, n3⟩, hrf⟩ := h.key t K0 h2
      have htm := hlt t h1
      refine ⟨Nat.lt_succ_of_lt htm, ?_⟩
      have hv : (cx.args.push v).getD t undef = a.tmps.getD t undef := by
        rw [hpin t h1]
        simp only [Array.getD_eq_getD_getElem?, Array.getElem?_push_lt htm, Array.getElem?_eq_getElem htm]
      rw [hv]
      have e1 : U' t = U t := by simp only [U']; rw [if_neg (hne h1)]
      have e2 : B' t = B t := by simp only [B']; rw [if_neg (hne h1)]
      have e3 : F' t = F t := by simp only [F']; rw [if_neg (hne h1), if_pos ⟨h1, by rw [h2]; rfl⟩]
      rw [e3]
      refine ⟨⟨fun o ho => by rw [e1]; exact hroot0.1 o (by simpa using ho), ?_⟩, ⟨fun o => if (K0.cells[o]?).any isC then N0 o else FP.none, fun o y hy => ?_, fun o o' b g1 g2 => ?_, fun o b hb => ?_⟩, fun b hb => hrf b ⟨h3, by rw [← e2]; exact hb.2⟩⟩
      · have h5 := hroot0.2
        simp only [h3] at h5
        rw [e1, e2]
        simpa using h5
      · simp only [List.getElem?_map] at hy
        obtain ⟨y', hy', rfl⟩ := Option.map_eq_some_iff.1 hy
        have hr := n1 o y' hy'
        rw [e1]
        cases y' with
        | c z => simp only [hy', Option.any_some, isC, if_true, boxC]; exact hr
        | _ => simp only [boxC]; exact Rep.any hr.one
      · dsimp only at g1 g2
        split at g1
        · split at g2
          · exact n2 _ _ _ g1 g2
          · exact g2.elim
        · exact g1.elim
      · dsimp only at hb
        split at hb
        · obtain ⟨m1, m2⟩ := n3 o b hb
          exact ⟨m1, fun hr => m2 ⟨h3, by rw [← e2]; exact hr.2⟩⟩
        · exact hb.elim
  · rcases Fat t b h1 with ⟨rfl, o, g1⟩ | ⟨q1, q2, ⟨K, q3⟩, g1⟩ <;> rcases Fat t' b h2 with ⟨rfl, o', g2⟩ | ⟨p1, p2, ⟨K', p3⟩, g2⟩
    · rfl
    · have := h.dis _ _ _ (hsub o b g1) g2
      have := (h.key _ _ p3).1
      omega
    · have := h.dis _ _ _ (hsub o' b g2) g1
      have := (h.key _ _ q3).1
      omega
    · exact h.dis _ _ _ g1 g2
  · rcases Fat t b hb with ⟨rfl, o, g1⟩ | ⟨q1, q2, ⟨K, q3⟩, g1⟩
    · exact h.own _ _ (hsub o b g1)
    · exact h.own _ _ g1
  · rcases Fat t b hb with ⟨rfl, o, g1⟩ | ⟨q1, q2, ⟨K, q3⟩, g1⟩
    · rcases h.may _ b (hsub o b g1) with h1 | h1 | ⟨K, h1, _⟩
      · exact .inl h1
      · exact .inr (.inl h1)
      · exact absurd (h.key _ _ h1).1 (Nat.lt_irrefl _)
    · rcases h.may t b g1 with h1 | h1 | ⟨K1, h1, h2, h3⟩
      · exact .inl h1
      · exact .inr (.inl h1)
      · have e2 : B' t = B t := by simp only [B']; rw [if_neg q1]
        have hin : ∀ (bx : List Nat) {l : L}, boxesL σ bx = some l → t ∈ bx → mk l t = some ⟨.box, K1.cells.map boxC, []⟩ := by
          intro bx
          induction bx with
          | nil => intro l _ hm; simp at hm
          | cons i r ih =>
            intro l hl hm
            simp only [boxesL] at hl
            split at hl
            · rename_i K0 hK0
              split at hl
              · split at hl
                · rename_i l' hl'
                  injection hl with hl; subst hl
                  simp only [mk, up]
                  by_cases e : t = i
                  · subst e
                    rw [if_pos rfl]
                    rw [h1] at hK0; cases hK0; rfl
                  · rw [if_neg e]
                    exact ih hl' ((List.mem_cons.1 hm).resolve_left e)
                · cases hl
              · cases hl
            · cases hl
        refine .inr (.inr ⟨⟨.box, K1.cells.map boxC, []⟩, ?_, ⟨rfl, by rw [e2]; exact h2.2⟩, fun q g3 g4 => h3 q (by rw [e2] at g3; exact g3) (by rw [e2] at g4; simpa using g4)⟩)
        simp only [mk, up]
        rw [if_neg q1]
        exact hin _ hlb q2
end
end Go.Proofs.AI

namespace Go.Proofs.AI
open Go.RowKit
set_option linter.unusedVariables false
set_option linter.unusedSimpArgs false

def takeR (T : Tab) (σ : St) : ResultVar → Option (Sh × List CV × L)
  | .tmp t => match σ t with
    | some K => if isVal K.sh then match grabs K.cells.length σ t 0 with
      | some (xs, o) => some (K.sh, xs, o)
      | none => none
      else none
    | none => none
  | .cell t ty => match σ t with
    | some K => if K.sh = .box then match T ty with
      | some i => if K.cells.length = i.size then match grabs K.cells.length σ t 0 with
        | some (xs, o) => match i.k with
          | .st => some (.agg, xs, o)
          | _ => if i.size = 1 then some (.one, xs, o) else none
        | none => none
        else none
      | none => none
      else none
    | none => none
def runR (tmps : Array Value) : ResultVar → Sem Value
  | .tmp t => pure (tmps.getD t undef)
  | .cell a t => do loadVar t (← asAddr (tmps.getD a undef))
section
variable {cx : Cx} {I : Nat → Prop} {U : Nat → Nat → Value} {B : Nat → Nat × Nat} {F : Nat → FP} {σ : St} {a : Act} {w : World}
theorem takeR_ok (h : RelW cx I U B F σ a w) {T : Tab} (hT : TabOk cx.P T) {rv : ResultVar} {sh : Sh} {xs : List CV} {out : L} (ht : takeR T σ rv = some (sh, xs, out)) :
    ∃ F' N us v, (runR a.tmps rv).run cx.P w = .ok v w ∧ isVal sh = true ∧ RootAt w ⟨sh, xs.map SC.c, []⟩ v us (0, 0) ∧ Grabbed cx I U B (ups σ out) a w (F cx.n) us xs F' N := by
  have turn : ∀ {t : Nat} {xs : List CV} {F' : Nat → FP} {N : Nat → FP}, Grabbed cx I U B (ups σ out) a w (F cx.n) (fun j => U t (0 + j)) xs F' N → Grabbed cx I U B (ups σ out) a w (F cx.n) (U t) xs F' N := fun {t xs F' N} g => by
    have : (fun j => U t (0 + j)) = U t := funext fun j => by rw [Nat.zero_add]
    rwa [this] at g
  cases rv with
  | tmp t =>
    simp only [takeR] at ht
    split at ht
    · rename_i K hK
      split at ht
      · rename_i hv
        split at ht
        · rename_i ys o hg
          injection ht with ht; injection ht with h1 h2; injection h2 with h2 h3; subst h1 h2 h3
          obtain ⟨F', N, hl, g⟩ := grabs_ok _ h hg
          obtain ⟨_, hroot, _⟩ := h.key t K hK
          refine ⟨F', N, U t, a.tmps.getD t undef, rfl, hv, ⟨fun o ho => hroot.1 o (by simpa [hl] using ho), ?_⟩, turn g⟩
          have h2 := hroot.2
          cases hs : K.sh with
          | one => simp only [hs] at h2 ⊢; simpa [hl] using h2
          | agg => simp only [hs] at h2 ⊢; simpa [hl] using h2
          | tup sig => simp [hs, isVal] at hv
          | box => simp [hs, isVal] at hv
        · cases ht
      · cases ht
    · cases ht
  | cell t ty =>
    simp only [takeR] at ht
    split at ht
    · rename_i K hK
      split at ht
      · rename_i hb
        split at ht
        · rename_i i hi
          split at ht
          · rename_i hsz
            split at ht
            · rename_i ys o hg
              obtain ⟨_, hroot, _⟩ := h.key t K hK
              have hroot2 := hroot.2
              simp only [hb] at hroot2
              obtain ⟨r1, r2, cur, e, r3, r4⟩ := hroot2
              have hcell : ∀ j, j < K.cells.length → w.cell? ((⟨(B t).1, (B t).2, none⟩ : Addr).add j) = some (U t j) := fun j hj => by
                rw [add_plain]; simp [World.cell?, r3, r4 j hj]
              have hrun : ∀ {v : Value}, (Instr.loadAt ty (.pointer (some ⟨(B t).1, (B t).2, none⟩))).run cx.P w = .ok v w → (runR a.tmps (.cell t ty)).run cx.P w = .ok v w := fun {v} hv => by
                simp only [runR, r2, asAddr, Sem.run_bind, Sem.run_pure, Result.andThen_ok]
                simpa [Instr.loadAt, Instr.sureAddr] using hv
              split at ht
              · rename_i hk
                injection ht with ht; injection ht with h1 h2; injection h2 with h2 h3; subst h1 h2 h3
                obtain ⟨F', N, hl, g⟩ := grabs_ok _ h hg
                refine ⟨F', N, U t, _, hrun (load_agg hT hi hk (U t) (fun j hj => hcell j (by omega))), rfl, ⟨fun o ho => hroot.1 o (by simpa [hl] using ho), _, rfl, by simp [hl, hsz], fun o ho => ?_⟩, turn g⟩
                have : o < i.size := by simpa [hl, hsz] using ho
                simp [this]
              · rename_i hk
                split at ht
                · rename_i h1s
                  injection ht with ht; injection ht with h1 h2; injection h2 with h2 h3; subst h1 h2 h3
                  obtain ⟨F', N, hl, g⟩ := grabs_ok _ h hg
                  have h0 := hcell 0 r1
                  rw [add_plain, Nat.add_zero] at h0
                  refine ⟨F', N, U t, _, hrun (load_one hT hi (fun x hx he => hk (hx.trans he)) h0), rfl, ⟨fun o ho => hroot.1 o (by simpa [hl] using ho), by simp [hl, hsz, h1s], rfl⟩, turn g⟩
                · cases ht
            · cases ht
          · cases ht
        · cases ht
      · cases ht
    · cases ht
end
/-- What is left of a call when its function is left. -/
def Leaves (cx : Cx) (fn : Func) (post : L → Prop) : Exit → Act → World → Prop
  | .normal, a, w => a.defers = [] ∧ ∃ v l, (results fn a.tmps).run cx.P w = .ok v w ∧ post l ∧ Rel ⟨cx.P, cx.args.size + 1, cx.w0, cx.F0, cx.I0, cx.pn, cx.args⟩ (mk l) ⟨cx.args.push v, []⟩ w
  | .ret, a, w => a.defers = [] ∧ ∃ v l, (results fn a.tmps).run cx.P w = .ok v w ∧ post l ∧ Rel ⟨cx.P, cx.args.size + 1, cx.w0, cx.F0, cx.I0, cx.pn, cx.args⟩ (mk l) ⟨cx.args.push v, []⟩ w
  | _, _, _ => False
theorem Leaves.both {cx : Cx} {fn : Func} {post : L → Prop} {a : Act} {w : World} (h : Leaves cx fn post .ret a w) : Leaves cx fn post .normal a w := h
section
variable {cx : Cx} {σ : St} {a : Act} {w : World} {fn : Func} {post : L → Prop}
theorem leaves_one {T : Tab} (hT : TabOk cx.P T) (hr : At cx σ a w) (hlt : ∀ t ∈ cx.pn, t < cx.args.size) {rv : ResultVar} (hres : fn.results = #[rv]) {sh : Sh} {xs : List CV} {out lb : L} (ht : takeR T σ rv = some (sh, xs, out)) (hlb : boxesL (ups σ out) cx.pn = some lb)
    (hp : post ((cx.args.size, ⟨sh, xs.map SC.c, []⟩) :: lb)) : Leaves cx fn post .ret a w := by
  obtain ⟨⟨I, U, B, F, h⟩, hpin⟩ := hr
  obtain ⟨F', N, us, v, r1, r2, r3, g⟩ := takeR_ok (held_none h) hT ht
  refine ⟨h.defers, v, _, ?_, hp, exit_rel g.rel hpin hlt hlb r3 (fun e => by simp only at e; rw [e] at r2; cases r2) (by simp [List.all_eq_true, isC]) (fun o y hy => ?_) g.dis (fun o b hb => (g.sub o b hb).1)⟩
  · have : (results fn a.tmps).run cx.P w = (runR a.tmps rv).run cx.P w := by
      cases rv <;> simp [results, hres, runR]
    rw [this]; exact r1
  · simp only [List.getElem?_map] at hy
    obtain ⟨y', hy', he⟩ := Option.map_eq_some_iff.1 hy
    injection he with he; subst he
    exact g.rep o _ hy'
theorem leaves_none (hr : At cx σ a w) (hlt : ∀ t ∈ cx.pn, t < cx.args.size) (hres : fn.results = #[]) {lb : L} (hlb : boxesL σ cx.pn = some lb) (hp : post ((cx.args.size, ⟨.tup [], [], []⟩) :: lb)) : Leaves cx fn post .ret a w := by
  obtain ⟨⟨I, U, B, F, h⟩, hpin⟩ := hr
  exact ⟨h.defers, .tuple #[], _, results_none hres _ _ _, hp, exit_rel (held_none h) hpin hlt hlb (us := fun _ => undef) (N := fun _ => FP.none) ⟨fun o ho => absurd ho (Nat.not_lt_zero o), rfl⟩ (by simp) rfl (fun o y hy => by simp at hy) (fun _ _ _ h => h.elim) (fun _ _ h => h.elim)⟩
end
theorem enter_at {P : Program} {m n : Nat} {w : World} {F0 : CP} {I0 : Nat → Prop} {σ : St} {args : Array Value} {bx : List Nat} (hm : m ≤ n) (hs : args.size = m) (hbx : ∀ t ∈ bx, t < m) (h : Rel ⟨P, m, w, F0, I0, [], #[]⟩ σ ⟨args, []⟩ w) :
    At ⟨P, n, w, F0, I0, bx, args⟩ σ ⟨args ++ Array.replicate (n - args.size) undef, []⟩ w := by
  obtain ⟨I, U, B, F, r⟩ := h
  have hget : ∀ t, t < m → (args ++ Array.replicate (n - args.size) undef).getD t undef = args.getD t undef := fun t ht => by
    simp only [Array.getD_eq_getD_getElem?]
    rw [Array.getElem?_append_left (by omega)]
  have Fat : ∀ t b, (if t < m then F t else FP.none) b → F t b ∧ t < m := fun t b hb => by
    split at hb
    · exact ⟨hb, ‹_›⟩
    · exact hb.elim
  refine ⟨⟨I, U, B, fun t => if t < m then F t else FP.none, by simp; omega, rfl, fun t K hK => ?_, fun t t' b h1 h2 => r.dis _ _ _ (Fat _ _ h1).1 (Fat _ _ h2).1, fun t b hb => r.own _ _ (Fat _ _ hb).1, fun t b hb => r.may _ _ (Fat _ _ hb).1, r.ro, r.ro0, r.roN, r.fr⟩, fun t ht => hget t (hbx t ht)⟩
  obtain ⟨h1, h2⟩ := r.key t K hK
  simp only at h1
  refine ⟨Nat.lt_of_lt_of_le h1 hm, ?_⟩
  rw [hget t h1, if_pos h1]
  exact h2
/-- A function's contract: its code, walked from the arguments to its leaving. -/
theorem fun_ok {P : Program} {f m : Nat} {fn : Func} {c : Code} {bx : List Nat} {ins : L} {post : L → Prop} (hf : P.funcs[f]? = some fn) (hb : fn.body = some c) (hn : (fn.name == "runtime.NumGoroutine") = false) (hm : m ≤ fn.ntmps) (hbx : ∀ t ∈ bx, t < m)
    (walk : ∀ (cx : Cx) (a : Act) (w : World), cx.P = P → cx.n = fn.ntmps → cx.pn = bx → cx.args.size = m → At cx (mk ins) a w → c.wp P (Leaves cx fn post) a w) : FunOK P f m bx ins post := by
  intro F0 I0 args w hs hr
  have hrun : (callFunc f args).run P w = .ok (.enter f args) w := by
    have hn' : fn.name ≠ "runtime.NumGoroutine" := by simpa using hn
    simp [callFunc, program, Sem.run, hf, hn', hb]
  unfold CallsTo
  rw [hrun]
  refine calls_of_wp hf hb (wp_mono (walk ⟨P, fn.ntmps, w, F0, I0, bx, args⟩ _ w rfl rfl rfl hs (enter_at hm hs hbx hr)) fun e a' w' hq => ?_)
  subst hs
  cases e with
  | normal =>
    obtain ⟨h1, v, l, h2, h3, h4⟩ := hq
    exact ⟨h1, v, h2, v, rfl, l, h3, h4⟩
  | ret =>
    obtain ⟨h1, v, l, h2, h3, h4⟩ := hq
    exact ⟨h1, v, h2, v, rfl, l, h3, h4⟩
  | _ => exact hq.elim
end Go.Proofs.AI

namespace Go.Proofs.AI
open Go.RowKit
set_option linter.unusedVariables false
set_option linter.unusedSimpArgs false
theorem andThen_assoc {α β γ : Type} (r : Result α) (f : α → World → Result β) (g : β → World → Result γ) : (r.andThen f).andThen g = r.andThen fun a w => (f a w).andThen g := by cases r <;> rfl
section
variable {cx : Cx} {σ : St} {a : Act} {w : World} {fn : Func} {post : L → Prop}
theorem RootAt.val {w : World} {sh : Sh} {xs : List CV} {v : Value} {us us' : Nat → Value} (h : RootAt w ⟨sh, xs.map SC.c, []⟩ v us (0, 0)) (hv : isVal sh = true) (hu : ∀ o, o < xs.length → us' o = us o) :
    (if sh = .agg then Value.agg (Array.ofFn (n := xs.length) fun j => us' j) else us' 0) = v := by
  obtain ⟨_, h⟩ := h
  cases sh with
  | one =>
    simp only [List.length_map] at h
    simp only [reduceCtorEq, if_false]
    rw [h.2, hu 0 (by omega)]
  | agg =>
    simp only [List.length_map] at h
    obtain ⟨arr, h1, h2, h3⟩ := h
    simp only [if_true]
    rw [h1]
    congr 1
    apply Array.ext
    · simp [h2]
    · intro j hj1 hj2
      have hj : j < xs.length := by simpa using hj1
      have := h3 j hj
      rw [Array.getElem?_eq_getElem hj2] at this
      simp only [Array.getElem_ofFn]
      rw [hu j hj]
      exact (Option.some.inj this).symm
  | tup sig => simp [isVal] at hv
  | box => simp [isVal] at hv
theorem leaves_two {T : Tab} (hT : TabOk cx.P T) (hr : At cx σ a w) (hlt : ∀ t ∈ cx.pn, t < cx.args.size) {rv rv' : ResultVar} (hres : fn.results = #[rv, rv']) {sh sh' : Sh} {xs xs' : List CV} {out out' lb : L} (ht : takeR T σ rv = some (sh, xs, out)) (ht' : takeR T (ups σ out) rv' = some (sh', xs', out')) (hlb : boxesL (ups (ups σ out) out') cx.pn = some lb)
    (hp : post ((cx.args.size, ⟨.tup [(decide (sh = .agg), xs.length), (decide (sh' = .agg), xs'.length)], (xs ++ xs').map SC.c, []⟩) :: lb)) : Leaves cx fn post .ret a w := by
  obtain ⟨⟨I, U, B, F, h⟩, hpin⟩ := hr
  obtain ⟨F1, N1, us1, v1, r1, r2, r3, g1⟩ := takeR_ok (held_none h) hT ht
  obtain ⟨F2, N2, us2, v2, s1, s2, s3, g2⟩ := takeR_ok g1.rel hT ht'
  have hle1 : ∀ o b, N1 o b → F2 cx.n b := fun o b hb => g2.old b (g1.sub o b hb).1
  let us : Nat → Value := fun o => if o < xs.length then us1 o else us2 (o - xs.length)
  have hxs : (xs.map SC.c).length = xs.length := by simp
  refine ⟨h.defers, .tuple #[v1, v2], _, ?_, hp, exit_rel g2.rel hpin hlt hlb (us := us) (N := fun o => if o < xs.length then N1 o else N2 (o - xs.length)) ⟨fun o ho => ?_, ?_⟩ (by simp) (by simp [List.all_eq_true, isC]) (fun o y hy => ?_) (fun o o' b hb hb' => ?_) (fun o b hb => ?_)⟩
  · have e1 : (results fn a.tmps).run cx.P w = ((runR a.tmps rv).run cx.P w).andThen fun x w1 => ((runR a.tmps rv').run cx.P w1).andThen fun y w2 => .ok (.tuple #[x, y]) w2 := by
      cases rv <;> cases rv' <;> simp [results, hres, runR, andThen_assoc]
    rw [e1, r1]
    simp only [Result.andThen_ok, s1]
  · simp only [List.length_map, List.length_append] at ho
    simp only [us]
    split
    · exact r3.1 o (by simpa)
    · exact s3.1 _ (by simp; omega)
  · have p1 := r3.val r2 (us' := us) (fun o ho => by simp [us, ho])
    have p2 := s3.val s2 (us' := fun j => us (xs.length + j)) (fun o ho => by simp only [us]; rw [if_neg (by omega), Nat.add_sub_cancel_left])
    have q1 : sh = .one ∨ sh = .agg := by cases sh <;> simp [isVal] at r2 <;> simp
    have q2 : sh' = .one ∨ sh' = .agg := by cases sh' <;> simp [isVal] at s2 <;> simp
    rcases q1 with rfl | rfl <;> rcases q2 with rfl | rfl <;> simp only [reduceCtorEq, if_false, if_true, decide_false, decide_true, tupParts, Nat.add_zero] at p1 p2 ⊢ <;> rw [← p1, ← p2]
  · simp only [List.getElem?_map] at hy
    obtain ⟨y', hy', he⟩ := Option.map_eq_some_iff.1 hy
    injection he with he; subst he
    simp only [us]
    by_cases ho : o < xs.length
    · rw [List.getElem?_append_left ho] at hy'
      simp only [ho, if_true]
      exact g1.rep o _ hy'
    · rw [List.getElem?_append_right (by omega)] at hy'
      simp only [ho, if_false]
      exact g2.rep _ _ hy'
  · split at hb <;> split at hb'
    · exact g1.dis _ _ _ hb hb'
    · exact absurd (g1.sub _ _ hb).1 (g2.sub _ _ hb').2.1
    · exact absurd (g1.sub _ _ hb').1 (g2.sub _ _ hb).2.1
    · have := g2.dis _ _ _ hb hb'; omega
  · split at hb
    · exact hle1 o b hb
    · exact (g2.sub _ _ hb).1
end
end Go.Proofs.AI

namespace Go.Proofs.AI
open Go.RowKit
set_option linter.unusedVariables false
set_option linter.unusedSimpArgs false
section
variable {cx : Cx} {I : Nat → Prop} {U : Nat → Nat → Value} {B : Nat → Nat × Nat} {F : Nat → FP} {σ : St} {a : Act} {w : World}
/-- A box that no slot but one knows is handed out; nothing else is. -/
theorem exit_box (h : RelW cx I U B F σ a w) (hpn : cx.pn = []) {t : Nat} {K : Ky} (hK : σ t = some K) (hsh : K.sh = .box) :
    Rel ⟨cx.P, cx.args.size + 1, cx.w0, cx.F0, cx.I0, cx.pn, cx.args⟩ (mk [(cx.args.size, ⟨.box, K.cells.map boxC, []⟩)]) ⟨cx.args.push (a.tmps.getD t undef), []⟩ w := by
  obtain ⟨h1, hroot, ⟨N0, n1, n2, n3⟩, hrf⟩ := h.key t K hK
  have hfp : ∀ b, rootFP ⟨.box, K.cells.map boxC, []⟩ (B t) b ↔ rootFP K (B t) b := fun b => by simp [rootFP, hsh]
  refine ⟨I, fun j => U t, fun j => B t, fun j => if j = cx.args.size then F t else FP.none, by simp, rfl, fun j K' hK' => ?_, fun j j' b g1 g2 => ?_, fun j b hb => ?_, fun j b hb => ?_, h.ro, h.ro0, h.roN, h.fr⟩
  · simp only [mk, up] at hK'
    split at hK'
    · rename_i e
      subst e
      injection hK' with hK'; subst hK'
      refine ⟨Nat.lt_succ_self _, ?_⟩
      have hv : (cx.args.push (a.tmps.getD t undef)).getD cx.args.size undef = a.tmps.getD t undef := by simp [Array.getD_eq_getD_getElem?]
      rw [hv]
      simp only [if_true]
      refine ⟨⟨fun o ho => hroot.1 o (by simpa using ho), ?_⟩, ⟨fun o => if (K.cells[o]?).any isC then N0 o else FP.none, fun o y hy => ?_, fun o o' b g1 g2 => ?_, fun o b hb => ?_⟩, fun b hb => hrf b ((hfp b).1 hb)⟩
      · have h2 := hroot.2
        simp only [hsh] at h2
        simpa using h2
      · simp only [List.getElem?_map] at hy
        obtain ⟨y', hy', rfl⟩ := Option.map_eq_some_iff.1 hy
        have hr := n1 o y' hy'
        cases y' with
        | c z => simp only [hy', Option.any_some, isC, if_true, boxC]; exact hr
        | _ => simp only [boxC]; exact Rep.any hr.one
      · dsimp only at g1 g2
        split at g1
        · split at g2
          · exact n2 _ _ _ g1 g2
          · exact g2.elim
        · exact g1.elim
      · dsimp only at hb
        split at hb
        · obtain ⟨m1, m2⟩ := n3 o b hb
          exact ⟨m1, fun hr => m2 ((hfp b).1 hr)⟩
        · exact hb.elim
    · cases hK'
  · split at g1
    · split at g2
      · rename_i e1 e2; rw [e1, e2]
      · exact g2.elim
    · exact g1.elim
  · split at hb
    · exact h.own _ _ hb
    · exact hb.elim
  · split at hb
    · rename_i e
      rcases h.may t b hb with h2 | h2 | ⟨K1, h2, h3, h4⟩
      · exact .inl h2
      · exact .inr (.inl h2)
      · rw [hK] at h2; cases h2
        exact .inr (.inr ⟨_, by simp [mk, up, e], (hfp b).2 h3, fun q q1 q2 => h4 q q1 (by simpa using q2)⟩)
    · exact hb.elim
theorem leaves_box {fn : Func} {post : L → Prop} (hr : At cx σ a w) (hpn : cx.pn = []) {t : Nat} (hres : fn.results = #[.tmp t]) {K : Ky} (hK : σ t = some K) (hsh : K.sh = .box) (hp : post [(cx.args.size, ⟨.box, K.cells.map boxC, []⟩)]) : Leaves cx fn post .ret a w := by
  obtain ⟨⟨I, U, B, F, h⟩, hpin⟩ := hr
  refine ⟨h.defers, a.tmps.getD t undef, _, ?_, hp, exit_box h hpn hK hsh⟩
  have : (results fn a.tmps).run cx.P w = (runR a.tmps (.tmp t)).run cx.P w := by simp [results, hres, runR]
  rw [this]; rfl
theorem leaves_boxP {fn : Func} {post : L → Prop} (hr : At cx σ a w) (hpn : cx.pn = []) {t k n : Nat} {lg : Log} (hres : fn.results = #[.tmp t]) (ht : σ t = some ⟨.one, [.pr k 0 n], lg⟩) {K : Ky} (hK : σ k = some K) (hsh : K.sh = .box) (hg : gone K.log n = false) (hp : post [(cx.args.size, ⟨.box, K.cells.map boxC, []⟩)]) : Leaves cx fn post .ret a w := by
  obtain ⟨⟨I, U, B, F, h⟩, hpin⟩ := hr
  have he : a.tmps.getD t undef = a.tmps.getD k undef := by
    obtain ⟨_, r1, ⟨N, n1, _⟩, _⟩ := h.key t _ ht
    obtain ⟨_, r2, _⟩ := h.key k _ hK
    have h2 := r2.2
    simp only [hsh] at h2
    have h1 := r1.2
    simp only at h1
    obtain ⟨_, K', hK', _, hv⟩ := n1 0 (.pr k 0 n) rfl
    rw [hK] at hK'; cases hK'
    rw [h1.2, hv hg hsh, h2.2.1, Nat.add_zero]
  refine ⟨h.defers, a.tmps.getD k undef, _, ?_, hp, exit_box h hpn hK hsh⟩
  have : (results fn a.tmps).run cx.P w = (runR a.tmps (.tmp t)).run cx.P w := by simp [results, hres, runR]
  rw [this]
  simp only [runR, he]; rfl
end
end Go.Proofs.AI

namespace Go.Proofs.AI
open Go.RowKit
set_option linter.unusedVariables false
set_option linter.unusedSimpArgs false

def isSt : TK → Bool
  | .st => true
  | _ => false
/-- What a plain operation asks, and what it says anew. -/
def act1 (T : Tab) (σ : St) (o : Oper) : Option (Prop × L) :=
  match o.dst with
  | none => match o.op with
    | .store t p x => vStore T σ t p x
    | _ => none
  | some d => match rd1 T σ o.op with
    | some (ob, .one x) => some (ob, [(d, ⟨.one, [x], logAt σ d⟩)])
    | some (ob, .agg xs) => some (ob, [(d, ⟨.agg, xs, logAt σ d⟩)])
    | none => match o.op with
      | .assign x => match steal σ x with
        | some e => some (True, e.out ++ [(d, ⟨if e.agg then .agg else .one, e.cells, logAt (ups σ e.out) d⟩)])
        | none => none
      | .move x => match vMoveT σ d x with
        | some out => some (True, out)
        | none => none
      | .extract x ix => match vExtract σ x ix with
        | some r => some (True, resOut σ d r)
        | none => none
      | .box t x => match eat σ x with
        | some e => if 0 < e.cells.length then some (True, e.out ++ [(d, ⟨.box, e.cells, logAt (ups σ e.out) d⟩)]) else none
        | none => none
      | .alloc t => match T t with
        | some i => if 0 < i.zero.length then some (True, [(d, ⟨.box, i.zc.map SC.c, logAt σ d⟩)]) else none
        | none => none
      | .build t parts => match T t, eats σ parts.toList with
        | some i, some (l, out) => match fills (i.fields[·]?) i.zc l with
          | some ys => match i.k with
            | .st => some (True, out ++ [(d, ⟨.agg, ys.map SC.c, logAt (ups σ out) d⟩)])
            | _ => none
          | none => none
        | _, _ => none
      | .buildSlice t n parts => match T t, eats σ parts.toList with
        | some it, some (l, out) => match it.k with
          | .sl e => match T e with
            | some ie => match fills (fun i => some (i * ie.size, ie.size, isSt ie.k)) (List.replicate n ie.zc).flatten l with
              | some ys => if 0 < ie.size ∧ n * ie.size ≤ 16777216 then some (True, out ++ [(d, ⟨.one, [.c (.ow e (tidy (rowsOf n ie.size ys)))], logAt (ups σ out) d⟩)]) else none
              | none => none
            | none => none
          | _ => none
        | _, _ => none
      | .call ⟨.builtin .append, ⟨[s, x]⟩, ⟨[t, t']⟩⟩ => match T t with
        | some it => match it.k with
          | .sl e => match T e with
            | some ie => match vMore σ e x with
              | some m => match vBase (ups σ m.out) e s with
                | some b => if t' = t ∧ 0 < ie.size ∧ 0 < ie.bytes then some ((b.rows.n + m.rows.n) * ie.bytes ≤ 140737488355328, m.out ++ b.out ++ [(d, ⟨.one, [.c (.ow e (appR b.rows m.rows))], logAt (ups σ (m.out ++ b.out)) d⟩)]) else none
                | none => none
              | none => none
            | none => none
          | _ => none
        | none => none
      | _ => none
theorem act1_ok {P : Program} {S : List Nat} {T : Tab} (hT : TabOk P T) {ops : Array Oper} {i : Nat} {o : Oper} {σ : St} (hi : ops[i]? = some o) (hw : Want ops σ o.guard true) {ob : Prop} {outs : L} (h : act1 T σ o = some (ob, outs)) (hob : ob) : OpS P S ops i σ outs := by
  unfold act1 at h
  split at h
  · rename_i hd
    split at h
    · rename_i t p x ho
      exact ops_store hT hi hw hd ho h hob
    · cases h
  · rename_i d hd
    split at h
    · rename_i ob' x hr
      injection h with h; injection h with h1 h2; subst h1 h2
      exact ops_rd_one hT hi hw hd hr hob
    · rename_i ob' xs hr
      injection h with h; injection h with h1 h2; subst h1 h2
      exact ops_rd_agg hT hi hw hd hr hob
    · split at h
      · rename_i x ho
        split at h
        · rename_i e he
          injection h with h; injection h with h1 h2; subst h1 h2
          exact ops_assign hi hw hd ho he
        · cases h
      · rename_i x ho
        split at h
        · rename_i out hr
          injection h with h; injection h with h1 h2; subst h1 h2
          exact ops_moveT hi hw hd ho hr
        · cases h
      · rename_i x ix ho
        split at h
        · rename_i r hr
          injection h with h; injection h with h1 h2; subst h1 h2
          exact ops_extract hi hw hd ho hr
        · cases h
      · rename_i t x ho
        split at h
        · rename_i e he
          split at h
          · rename_i hp
            injection h with h; injection h with h1 h2; subst h1 h2
            exact ops_box hi hw hd ho he hp
          · cases h
        · cases h
      · rename_i t ho
        split at h
        · rename_i ty ht
          split at h
          · rename_i hp
            injection h with h; injection h with h1 h2; subst h1 h2
            exact ops_alloc hT hi hw hd ho ht hp
          · cases h
        · cases h
      · rename_i t parts ho
        split at h
        · rename_i ty l out ht he
          split at h
          · rename_i ys hf
            split at h
            · rename_i hk
              injection h with h; injection h with h1 h2; subst h1 h2
              exact ops_build hT hi hw hd ho ht hk he hf
            · cases h
          · cases h
        · cases h
      · rename_i t n parts ho
        split at h
        · rename_i it l out ht he
          split at h
          · rename_i e hk
            split at h
            · rename_i ie hie
              split at h
              · rename_i ys hf
                split at h
                · rename_i hp
                  injection h with h; injection h with h1 h2; subst h1 h2
                  exact ops_buildSlice hT hi hw hd ho ht hk hie hp.1 hp.2 he _ hf
                · cases h
              · cases h
            · cases h
          · cases h
        · cases h
      · rename_i s x t t' ho
        split at h
        · rename_i it ht
          split at h
          · rename_i e hk
            split at h
            · rename_i ie hie
              split at h
              · rename_i m hm
                split at h
                · rename_i b hb
                  split at h
                  · rename_i hp
                    injection h with h; injection h with h1 h2; subst h1 h2
                    obtain ⟨rfl, p1, p2⟩ := hp
                    exact ops_append hT hi hw hd ho ht hk hie p1 hm hb hob p2
                  · cases h
                · cases h
              · cases h
            · cases h
          · cases h
        · cases h
      · cases h
/-- Whether an operation is wanted. -/
def want1 (all : List Oper) (σ : St) : Option (Nat × Bool) → Option Bool
  | none => some true
  | some (g, b) => match all[g]? with
    | some og => match og.dst with
      | some t => match oneC σ (.tmp t) with
        | some (.b b') => some (b' == b)
        | _ => none
      | none => none
    | none => none
theorem want1_ok {all : List Oper} {σ : St} {g : Option (Nat × Bool)} {b : Bool} (h : want1 all σ g = some b) : Want all.toArray σ g b := by
  cases g with
  | none => simp only [want1] at h; injection h with h; subst h; exact .free
  | some g =>
    obtain ⟨g, c⟩ := g
    simp only [want1] at h
    split at h
    · rename_i og hog
      split at h
      · rename_i t ht
        split at h
        · rename_i b' hb'
          injection h with h
          have hog' : all.toArray[g]? = some og := by simpa using hog
          cases b with
          | true =>
            have : b' = c := by simpa using h
            subst this
            exact .yes hog' ht hb'
          | false => exact .no hog' ht hb' (by simpa using h)
        · cases h
      · cases h
    · cases h
end Go.Proofs.AI

namespace Go.Proofs.AI
open Go.RowKit
set_option linter.unusedVariables false
set_option linter.unusedSimpArgs false

/-- Two tellings of one cell; 'has' says which slots are told. -/
def sameC (has : Nat → Bool) : SC → SC → Prop
  | .c x, .c y => beOb x y
  | .v e k o p 0 r, .v e' k' o' p' 0 r' => e = e' ∧ k = k' ∧ o = o' ∧ p = p' ∧ r = r' ∧ has k = true
  | .pr k o 0, .pr k' o' 0 => k = k' ∧ o = o' ∧ has k = true
  | .q row o, .q row' o' => row = row' ∧ o = o'
  | .fn f ks, .fn f' ks' => f = f' ∧ ks = ks' ∧ ks'.all (fun q => has q.1 && q.2 == 0) = true
  | _, _ => False
def sameCs (has : Nat → Bool) : List SC → List SC → Prop
  | [], [] => True
  | [x], [y] => sameC has x y
  | x :: xs, y :: ys => sameC has x y ∧ sameCs has xs ys
  | _, _ => False
def sameK (has : Nat → Bool) : Option Ky → Ky → Prop
  | some ⟨sh, cells, []⟩, ⟨sh', cells', []⟩ => if sh = sh' then sameCs has cells cells' else False
  | _, _ => False
def sameR (has : Nat → Bool) (σ : St) : L → Prop
  | [] => True
  | [(k, K)] => sameK has (σ k) K
  | (k, K) :: r => sameK has (σ k) K ∧ sameR has σ r
def sameL (s s' : L) : Prop := sameR (fun k => s'.any fun p => p.1 == k) (mk s) s'

theorem sameCs_at {has : Nat → Bool} : ∀ {xs ys : List SC}, sameCs has xs ys → xs.length = ys.length ∧ ∀ (o : Nat) y, ys[o]? = some y → ∃ x, xs[o]? = some x ∧ sameC has x y
  | [], [], _ => ⟨rfl, fun o y h => by simp at h⟩
  | [], _ :: _, h => by simp [sameCs] at h
  | [_], [], h => by simp [sameCs] at h
  | _ :: _ :: _, [], h => by simp [sameCs] at h
  | [x], [y], h => ⟨rfl, fun o z hz => by
      cases o with
      | zero => simp at hz; subst hz; exact ⟨x, rfl, h⟩
      | succ o => simp at hz⟩
  | [x], y :: y' :: ys, h => by
    simp only [sameCs] at h
    exact h.2.elim
  | x :: x' :: xs, [y], h => by
    simp only [sameCs] at h
    exact h.2.elim
  | x :: x' :: xs, y :: y' :: ys, h => by
    simp only [sameCs] at h
    obtain ⟨h1, h2⟩ := sameCs_at (xs := x' :: xs) (ys := y' :: ys) (by simpa only [sameCs] using h.2)
    refine ⟨by simpa using h1, fun o z hz => ?_⟩
    cases o with
    | zero => simp at hz; subst hz; exact ⟨x, rfl, h.1⟩
    | succ o => simpa using h2 o z (by simpa using hz)
theorem sameR_at {has : Nat → Bool} {σ : St} : ∀ {s' : L}, sameR has σ s' → ∀ t K', mk s' t = some K' → sameK has (σ t) K'
  | [], _, t, K', h => by simp [mk] at h
  | [(k, K)], h, t, K', hK => by
    simp only [mk, up] at hK
    split at hK
    · rename_i e; subst e; cases hK; exact h
    · cases hK
  | (k, K) :: q :: r, h, t, K', hK => by
    simp only [sameR] at h
    by_cases e : t = k
    · subst e
      simp only [mk, up, if_true] at hK
      cases hK
      exact h.1
    · have hK2 : mk (q :: r) t = some K' := by
        have : mk ((k, K) :: q :: r) t = mk (q :: r) t := by simp only [mk, up, e, if_false]
        rw [← this]; exact hK
      exact sameR_at (s' := q :: r) (by simpa only [sameR] using h.2) t K' hK2
theorem mk_has {s' : L} : ∀ {k : Nat}, (s'.any fun p => p.1 == k) = true → ∃ K, mk s' k = some K := by
  induction s' with
  | nil => intro k h; simp at h
  | cons q r ih =>
    obtain ⟨d, K⟩ := q
    intro k h
    by_cases e : k = d
    · exact ⟨K, by simp [mk, up, e]⟩
    · simp only [List.any_cons, Bool.or_eq_true] at h
      rcases h with h | h
      · exact absurd (by simpa using h : d = k).symm e
      · obtain ⟨K', h⟩ := ih h
        exact ⟨K', by simp only [mk, up, e, if_false]; exact h⟩
theorem mk_has' {s' : L} : ∀ {k : Nat} {K : Ky}, mk s' k = some K → (s'.any fun p => p.1 == k) = true := by
  induction s' with
  | nil => intro k K h; simp [mk] at h
  | cons q r ih =>
    obtain ⟨d, K0⟩ := q
    intro k K h
    by_cases e : k = d
    · simp [e]
    · simp only [mk, up, e, if_false] at h
      simp [ih h]
theorem sameK_inv {has : Nat → Bool} {q : Option Ky} {K' : Ky} (h : sameK has q K') : ∃ K, q = some K ∧ K.log = [] ∧ K'.log = [] ∧ K.sh = K'.sh ∧ sameCs has K.cells K'.cells := by
  unfold sameK at h
  split at h
  · split at h
    · rename_i he; exact ⟨_, rfl, rfl, rfl, he, h⟩
    · exact h.elim
  · exact h.elim
theorem cn_get {P : Program} {w : World} : ∀ {p : Way} {x y : CV} {u : Value} {z : CV}, cn x = cn y → y.get p = some z → ∃ z0, x.get p = some z0 ∧ conc P w y u p = conc P w x u p
  | [], x, y, u, z, _, hz => ⟨x, by simp [CV.get], by simp [conc]⟩
  | (k, o) :: r, x, y, u, z, h, hz => by
    cases y <;> simp only [CV.get, reduceCtorEq] at hz
    rename_i e es
    cases x <;> simp [cn] at h
    rename_i e' es'
    obtain ⟨rfl, h⟩ := h
    have h := raw_inj.1 h
    obtain ⟨y1, hy1, hz⟩ := Option.bind_eq_some_iff.1 hz
    obtain ⟨row, r1, r2, _⟩ := row_lt hy1
    obtain ⟨row0, e1, e2, e3⟩ := cnRs_row h r1
    obtain ⟨x1, g1, g2⟩ := e3 o y1 r2
    have hx1 := row_mk e1 g1
    obtain ⟨z0, q1, q2⟩ := cn_get (P := P) (w := w) (p := r) (u := undef) g2 hz
    refine ⟨z0, by simp [CV.get, hx1, q1], ?_⟩
    cases u with
    | slice A m c =>
      cases A with
      | none => simp [conc]
      | some ad =>
        obtain ⟨g, of, sp⟩ := ad
        cases of <;> cases sp <;> simp only [conc, hx1, hy1, Option.bind_some]
        refine congrArg _ (funext fun u' => ?_)
        obtain ⟨_, _, q3⟩ := cn_get (P := P) (w := w) (p := r) (u := u') g2 hz
        exact q3
    | _ => simp [conc]
theorem beOb_get {x y : CV} (h : beOb x y) {P : Program} {w : World} {u : Value} : ∀ {p : Way} {z : CV}, y.get p = some z → p = [] ∨ ∃ z0, x.get p = some z0 ∧ conc P w y u p = conc P w x u p := by
  intro p z hz
  cases p with
  | nil => exact .inl rfl
  | cons s r =>
    obtain ⟨k, o⟩ := s
    right
    unfold beOb at h
    split at h
    · simp [CV.get, row?, Rows.l_nil h] at hz
    · simp [CV.get] at hz
    · subst h; exact ⟨z, hz, rfl⟩
    · obtain ⟨rfl, hl⟩ := ifOb h
      exact cn_get (by simp only [cn, hl]) hz
    · simp [CV.get] at hz
    · simp [CV.get] at hz
    · simp [CV.get] at hz
    · simp [CV.get] at hz
    · simp [CV.get] at hz
    · simp [CV.get] at hz
    · simp [CV.get] at hz
    · exact h.elim
theorem same_at {cx : Cx} {s s' : L} {a : Act} {w : World} (hs : sameL s s') (h : At cx (mk s) a w) : At cx (mk s') a w := by
  obtain ⟨⟨I, U, B, F, h⟩, hp⟩ := h
  refine ⟨⟨I, U, B, fun t => if (s'.any fun p => p.1 == t) = true ∨ t = cx.n then F t else FP.none, ?_⟩, hp⟩
  have sub : ∀ t b, (if (s'.any fun p => p.1 == t) = true ∨ t = cx.n then F t else FP.none) b → F t b ∧ ((s'.any fun p => p.1 == t) = true ∨ t = cx.n) := fun t b hb => by
    split at hb
    · rename_i h1; exact ⟨hb, h1⟩
    · exact hb.elim
  have key : ∀ t K', mk s' t = some K' → ∃ K, mk s t = some K ∧ K.log = [] ∧ K'.log = [] ∧ K.sh = K'.sh ∧ sameCs (fun k => s'.any fun p => p.1 == k) K.cells K'.cells := fun t K' hK' => sameK_inv (sameR_at hs t K' hK')
  have cell : ∀ {x y : SC} {v : Value} {G : FP}, sameC (fun k => s'.any fun p => p.1 == k) x y → SCRep cx.P w I (mk s) U B x v G → SCRep cx.P w I (mk s') U B y v G := by
    intro x y v G hxy hr
    unfold sameC at hxy
    split at hxy
    · exact beOb_rep hxy hr
    · obtain ⟨rfl, rfl, rfl, rfl, rfl, hk⟩ := hxy
      rename_i e k o p r
      obtain ⟨K', hK'⟩ := mk_has hk
      obtain ⟨K, hK, l1, l2, e1, e2⟩ := key k K' hK'
      obtain ⟨h1, K0, h2, h3, h4⟩ := hr
      rw [hK] at h2; cases h2
      refine ⟨h1, K', hK', Nat.zero_le _, fun hst x0 y0 hx0 hy0 => ?_⟩
      obtain ⟨z, hz, hzy⟩ := (sameCs_at e2).2 o _ hx0
      have hst0 : stale K.log 0 o p = false := by rw [l1]; rfl
      unfold sameC at hzy
      split at hzy
      · rename_i x1 y1 heq
        injection heq with heq; subst heq
        rcases beOb_get hzy (P := cx.P) (w := w) (u := U k o) hy0 with rfl | ⟨z0, g1, g2⟩
        · obtain ⟨u, q1, q2⟩ := h4 hst0 x1 _ hz rfl
          exact ⟨u, by simpa [conc] using q1, q2⟩
        · obtain ⟨u, q1, q2⟩ := h4 hst0 x1 _ hz g1
          exact ⟨u, g2.trans q1, q2⟩
      · rename_i heq; cases heq
      · rename_i heq; cases heq
      · rename_i heq; cases heq
      · rename_i heq; cases heq
      · exact hzy.elim
    · obtain ⟨rfl, rfl, hk⟩ := hxy
      rename_i k o
      obtain ⟨K', hK'⟩ := mk_has hk
      obtain ⟨K, hK, l1, l2, e1, e2⟩ := key k K' hK'
      obtain ⟨h1, K0, h2, h3, h4⟩ := hr
      rw [hK] at h2; cases h2
      exact ⟨h1, K', hK', Nat.zero_le _, fun hg hb => h4 (by rw [l1]; rfl) (e1.trans hb)⟩
    · obtain ⟨rfl, rfl⟩ := hxy; exact hr
    · obtain ⟨rfl, rfl, hall⟩ := hxy
      obtain ⟨vs, h1, h2, h3⟩ := hr
      refine ⟨vs, h1, h2, fun i k n hi => ?_⟩
      have ha := List.all_eq_true.1 hall _ (List.mem_of_getElem? hi)
      simp only [Bool.and_eq_true, beq_iff_eq] at ha
      obtain ⟨K', hK'⟩ := mk_has ha.1
      obtain ⟨K, hK, l1, l2, e1, e2⟩ := key k K' hK'
      obtain ⟨a1, K0, a2, a3, a4⟩ := h3 i k n hi
      rw [hK] at a2; cases a2
      exact ⟨a1, K', hK', by omega, fun hg hb => a4 (by rw [l1]; simp [gone]) (e1.trans hb)⟩
    · exact hxy.elim
  refine ⟨h.size, h.defers, fun t K' hK' => ?_, fun t t' b h1 h2 => h.dis t t' b (sub t b h1).1 (sub t' b h2).1, fun t b hb => h.own t b (sub t b hb).1, fun t b hb => ?_, h.ro, h.ro0, h.roN, h.fr⟩
  · obtain ⟨K, hK, l1, l2, e1, e2⟩ := key t K' hK'
    obtain ⟨h1, h2, ⟨N, n1, n2, n3⟩, h4⟩ := h.key t K hK
    obtain ⟨hlen, hat⟩ := sameCs_at e2
    refine ⟨h1, ?_⟩
    simp only [mk_has' hK', true_or, if_true]
    have hfp : ∀ b, rootFP K' (B t) b ↔ rootFP K (B t) b := fun b => by simp only [rootFP, e1]
    refine ⟨⟨fun o ho => h2.1 o (by omega), ?_⟩, ⟨N, fun o y hy => ?_, n2, fun o b hb => ⟨(n3 o b hb).1, fun hq => (n3 o b hb).2 ((hfp b).1 hq)⟩⟩, fun b hb => h4 b ((hfp b).1 hb)⟩
    · have h2 := h2.2
      rw [← e1]
      cases hs : K.sh with
      | one => simp only [hs] at h2 ⊢; exact ⟨by omega, h2.2⟩
      | agg => simp only [hs] at h2 ⊢; rw [← hlen]; exact h2
      | tup sig => simp only [hs] at h2 ⊢; exact h2
      | box => simp only [hs] at h2 ⊢; rw [← hlen]; exact h2
    · obtain ⟨x, hx, hxy⟩ := hat o y hy
      exact cell hxy (n1 o x hx)
  · obtain ⟨h1, h2⟩ := sub t b hb
    rcases h.may t b h1 with h3 | h3 | ⟨K, h3, h4, h5⟩
    · exact .inl h3
    · exact .inr (.inl h3)
    · rcases h2 with h2 | h2
      · obtain ⟨K', hK'⟩ := mk_has h2
        obtain ⟨K0, hK0, l1, l2, e1, e2⟩ := key t K' hK'
        rw [h3] at hK0; cases hK0
        exact .inr (.inr ⟨K', hK', by simpa only [rootFP, e1] using h4, fun q q1 q2 => h5 q q1 (by rw [(sameCs_at e2).1]; exact q2)⟩)
      · exact absurd (h.key t K h3).1 (by omega)
theorem same_rel {cx : Cx} {s s' : L} {a : Act} {w : World} (hs : sameL s s') (h : Rel cx (mk s) a w) : Rel cx (mk s') a w := by
  have : At { cx with pn := [] } (mk s) a w := ⟨by
    obtain ⟨I, U, B, F, h⟩ := h
    exact ⟨I, U, B, F, ⟨h.size, h.defers, h.key, h.dis, h.own, h.may, h.ro, h.ro0, h.roN, h.fr⟩⟩, by simp⟩
  obtain ⟨⟨I, U, B, F, h'⟩, _⟩ := same_at hs this
  exact ⟨I, U, B, F, ⟨h'.size, h'.defers, h'.key, h'.dis, h'.own, h'.may, h'.ro, h'.ro0, h'.roN, h'.fr⟩⟩
theorem FunOK.same {P : Program} {f m : Nat} {bx : List Nat} {ins ins' : L} {post : L → Prop} (hs : sameL ins ins') (h : FunOK P f m bx ins' post) : FunOK P f m bx ins post :=
  fun F0 I0 args w hm hr => h F0 I0 args w hm (same_rel hs hr)
theorem beOb_refl {x : CV} : beOb x x := by
  cases x with
  | vl v => unfold beOb; split <;> first | rfl | simp_all
  | _ => simp [beOb]
end Go.Proofs.AI

namespace Go.Proofs.AI
open Go.RowKit
set_option linter.unusedVariables false
set_option linter.unusedSimpArgs false

def preOf {β : Type} : Option (β → Prop) → β → Prop
  | none, _ => True
  | some p, b => p b
def preK {β : Type} : Option (β → Prop) → β → Prop → Prop
  | none, _, Q => Q
  | some p, b, Q => p b ∧ Q
theorem preK_ok {β : Type} {o : Option (β → Prop)} {b : β} {Q : Prop} (h : preK o b Q) : preOf o b ∧ Q := by
  cases o with
  | none => exact ⟨trivial, h⟩
  | some p => exact h
/-- One of two results, by a test. -/
def altOut {β : Type} : List ((β → Bool) × (β → L)) → (β → L) → β → L
  | [], out, b => out b
  | (q, o2) :: r, out, b => bif q b then o2 b else altOut r out b
def altK {β : Type} : List ((β → Bool) × (β → L)) → (β → L) → β → (L → Prop) → Prop
  | [], out, b, K => K (out b)
  | (q, o2) :: r, out, b, K => (q b = true → K (o2 b)) ∧ (q b = false → altK r out b K)
theorem altK_ok {β : Type} : ∀ {alt : List ((β → Bool) × (β → L))} {out : β → L} {b : β} {K : L → Prop}, altK alt out b K → K (altOut alt out b)
  | [], _, _, _, h => h
  | (q, o2) :: r, out, b, K, h => by
    simp only [altK] at h
    simp only [altOut]
    cases hq : q b with
    | true => exact h.1 hq
    | false => exact altK_ok (h.2 hq)
/-- A contract, by a family of arguments. -/
structure Con (P : Program) where
  f : FuncId
  m : Nat
  mds : List Md
  bx : List Nat
  β : Type
  pre : Option (β → Prop)
  ins : β → L
  out : β → L
  alt : List ((β → Bool) × (β → L))
  ok : ∀ b, preOf pre b → FunOK P f m bx (ins b) (· = altOut alt out b)
/-- What a loop's slots hold, by a family. -/
structure Fam where
  α : Type
  st : α → L
/-- What is known of slots that hold a truth value. -/
abbrev KN := List (Nat × Bool)
def kget : KN → Nat → Option Bool
  | [], _ => none
  | (s, b) :: r, t => if s = t then some b else kget r t
def kdel : KN → Nat → KN
  | [], _ => []
  | (s, b) :: r, t => if s = t then kdel r t else (s, b) :: kdel r t
def kofO (kn : KN) : Operand → Option Bool
  | .tmp t => kget kn t
  | .const (.bool b) => some b
  | _ => none
def kof (kn : KN) : Op → Option Bool
  | .move x => kofO kn x
  | .assign x => kofO kn x
  | .pick c a b => match kofO kn c with
    | some true => kofO kn a
    | some false => kofO kn b
    | none => none
  | .unOp .not _ x => match kofO kn x with
    | some true => some false
    | some false => some true
    | none => none
  | _ => none
def kput (kn : KN) (o : Oper) : KN := match o.dst with
  | none => kn
  | some d => match kof kn o.op with
    | some b => (d, b) :: kdel kn d
    | none => kdel kn d
def koff (kn : KN) (o : Oper) : KN := match o.dst with
  | none => kn
  | some d => kdel kn d
/-- Operations that ask nothing. -/
def freeOf (σ : St) : Op → Bool
  | .binOp .quo _ _ _ _ => false
  | .binOp .rem _ _ _ _ => false
  | .binOp .shr _ _ _ _ => false
  | .binOp .add _ x _ _ => match oneC σ x with
    | some (.s _) => false
    | _ => true
  | .binOp .eql _ _ y _ => match arg1 σ y with
    | some (.one (.c (.vl _))) => false
    | _ => true
  | .binOp .neq _ _ y _ => match arg1 σ y with
    | some (.one (.c (.vl _))) => false
    | _ => true
  | .load _ x => match one1 σ x with
    | some (.p _ _ _ _ _ _ _) => false
    | _ => true
  | .indexAddr _ _ _ => false
  | .index _ _ _ => false
  | .slice _ _ _ _ _ => false
  | .store _ p x => match eat σ x with
    | some e => match one1 (ups σ e.out) p with
      | some (.p _ _ _ _ _ _ _) => false
      | _ => true
    | none => false
  | .call ⟨.builtin .append, _, _⟩ => false
  | _ => true
theorem bin_free {op : BinOp} {x y z : CV} {ob : Prop} (h : bin op x y = some (ob, z)) (h1 : op ≠ .quo) (h2 : op ≠ .rem) (h2' : op ≠ .shr) (h3 : op = .add → ∀ s, x ≠ .s s) : ob := by
  unfold bin at h
  split at h
  · split at h
    · split at h <;> first | (exfalso; first | exact h1 rfl | exact h2 rfl | exact h2' rfl) | (injection h with h; injection h with h _; subst h; trivial) | cases h
    · cases h
  · split at h <;> first | (exact (h3 rfl _ rfl).elim) | (injection h with h; injection h with h _; subst h; trivial) | cases h
  · cases h
theorem vEq_free {T : Tab} {σ : St} {neg : Bool} {t : TypeId} {x y : Res} {z : CV} {ob : Prop} (h : vEq T σ neg t x y = some (ob, z)) (hy : ∀ v, y ≠ .one (.c (.vl v))) : ob := by
  unfold vEq at h
  split at h
  · split at h
    · split at h
      · injection h with h; injection h with h _; subst h; trivial
      · cases h
    · split at h
      · exact (hy _ rfl).elim
      · cases h
    · split at h
      · split at h
        · cases h
        · obtain ⟨r, _, h⟩ := Option.map_eq_some_iff.1 h
          injection h with h _; subst h; trivial
      · cases h
    · cases h
  · cases h
theorem vLoad_free {T : Tab} {σ : St} {t : TypeId} {s : SC} {z : Res} {ob : Prop} (h : vLoad T σ t s = some (ob, z)) (hs : ∀ e k o p n i j, s ≠ .p e k o p n i j) : ob := by
  unfold vLoad at h
  split at h
  · split at h
    · split at h
      · split at h
        · injection h with h; injection h with h _; subst h; trivial
        · cases h
      · split at h
        · split at h
          · injection h with h; injection h with h _; subst h; trivial
          · cases h
        · cases h
    · split at h
      · split at h
        · cases h
        · split at h
          · split at h
            · injection h with h; injection h with h _; subst h; trivial
            · cases h
          · split at h
            · split at h
              · injection h with h; injection h with h _; subst h; trivial
              · cases h
            · cases h
      · cases h
    · exact (hs _ _ _ _ _ _ _ rfl).elim
    · cases h
  · cases h
theorem rd1_free {T : Tab} {σ : St} {op : Op} {ob : Prop} {r : Res} (h : rd1 T σ op = some (ob, r)) (hf : freeOf σ op = true) : ob := by
  unfold rd1 at h
  split at h
  · obtain ⟨_, _, h⟩ := Option.map_eq_some_iff.1 h; injection h with h _; subst h; trivial
  · split at h
    · obtain ⟨_, _, h⟩ := Option.map_eq_some_iff.1 h; injection h with h _; subst h; trivial
    · obtain ⟨_, _, h⟩ := Option.map_eq_some_iff.1 h; injection h with h _; subst h; trivial
    · cases h
  · split at h
    · split at h
      · injection h with h; injection h with h _; subst h; trivial
      · cases h
    · cases h
  · split at h
    · injection h with h; injection h with h _; subst h; trivial
    · cases h
  · split at h
    · split at h
      · split at h
        · injection h with h; injection h with h _; subst h; trivial
        · cases h
      · cases h
    · cases h
  · rename_i t x y u
    have hy : ∀ {s : Res}, arg1 σ y = some s → ∀ v, s ≠ .one (.c (.vl v)) := fun {s} hs v he => by
      subst he
      simp [freeOf, hs] at hf
    split at h
    · split at h
      · rename_i hb
        injection h with h; injection h with h _; subst h
        exact bin_free hb (by simp) (by simp) (by simp) (by simp)
      · split at h
        · rename_i hs
          obtain ⟨q, hq, h⟩ := Option.map_eq_some_iff.1 h
          injection h with h _; subst h
          exact vEq_free hq (hy hs)
        · cases h
    · split at h
      · rename_i hs
        obtain ⟨q, hq, h⟩ := Option.map_eq_some_iff.1 h
        injection h with h _; subst h
        exact vEq_free hq (hy hs)
      · cases h
  · rename_i t x y u
    have hy : ∀ {s : Res}, arg1 σ y = some s → ∀ v, s ≠ .one (.c (.vl v)) := fun {s} hs v he => by
      subst he
      simp [freeOf, hs] at hf
    split at h
    · split at h
      · rename_i hb
        injection h with h; injection h with h _; subst h
        exact bin_free hb (by simp) (by simp) (by simp) (by simp)
      · split at h
        · rename_i hs
          obtain ⟨q, hq, h⟩ := Option.map_eq_some_iff.1 h
          injection h with h _; subst h
          exact vEq_free hq (hy hs)
        · cases h
    · split at h
      · rename_i hs
        obtain ⟨q, hq, h⟩ := Option.map_eq_some_iff.1 h
        injection h with h _; subst h
        exact vEq_free hq (hy hs)
      · cases h
  · rename_i op t x y u n1 n2
    split at h
    · rename_i a b ha hb
      obtain ⟨q, hq, h⟩ := Option.map_eq_some_iff.1 h
      injection h with h _; subst h
      refine bin_free hq ?_ ?_ ?_ ?_
      · rintro rfl; simp [freeOf] at hf
      · rintro rfl; simp [freeOf] at hf
      · rintro rfl; simp [freeOf] at hf
      · rintro rfl s rfl; simp [freeOf, ha] at hf
    · cases h
  · split at h
    · rename_i s hs
      refine vLoad_free h ?_
      rintro e k o p n i j rfl
      simp [freeOf, hs] at hf
    · cases h
  · split at h
    · obtain ⟨_, _, h⟩ := Option.map_eq_some_iff.1 h; injection h with h _; subst h; trivial
    · cases h
  · split at h
    · obtain ⟨_, _, h⟩ := Option.map_eq_some_iff.1 h; injection h with h _; subst h; trivial
    · cases h
  · simp [freeOf] at hf
  · simp [freeOf] at hf
  · simp [freeOf] at hf
  · split at h
    · obtain ⟨_, _, h⟩ := Option.map_eq_some_iff.1 h; injection h with h _; subst h; trivial
    · cases h
  · split at h
    · injection h with h; injection h with h _; subst h; trivial
    · cases h
  · split at h
    · injection h with h; injection h with h _; subst h; trivial
    · cases h
  · obtain ⟨_, _, h⟩ := Option.map_eq_some_iff.1 h; injection h with h _; subst h; trivial
  · cases h
theorem vStore_free {T : Tab} {σ : St} {t : TypeId} {p x : Operand} {ob : Prop} {out : L} (h : vStore T σ t p x = some (ob, out)) (hf : freeOf σ (.store t p x) = true) : ob := by
  unfold vStore at h
  split at h
  · split at h
    · rename_i e he
      simp only [freeOf, he] at hf
      split at h
      · split at h
        · split at h
          · split at h
            · cases h
            · split at h
              · injection h with h; injection h with h _; subst h; trivial
              · cases h
          · cases h
        · rename_i hp
          simp [hp] at hf
        · cases h
      · cases h
    · cases h
  · cases h
theorem act1_free {T : Tab} {σ : St} {o : Oper} {ob : Prop} {outs : L} (h : act1 T σ o = some (ob, outs)) (hf : freeOf σ o.op = true) : ob := by
  unfold act1 at h
  split at h
  · split at h
    · rename_i t p x ho
      rw [ho] at hf
      exact vStore_free h hf
    · cases h
  · split at h
    · rename_i hr
      injection h with h; injection h with h _; subst h
      exact rd1_free hr hf
    · rename_i hr
      injection h with h; injection h with h _; subst h
      exact rd1_free hr hf
    · split at h
      · split at h
        · injection h with h; injection h with h _; subst h; trivial
        · cases h
      · split at h
        · injection h with h; injection h with h _; subst h; trivial
        · cases h
      · split at h
        · injection h with h; injection h with h _; subst h; trivial
        · cases h
      · split at h
        · split at h
          · injection h with h; injection h with h _; subst h; trivial
          · cases h
        · cases h
      · split at h
        · split at h
          · injection h with h; injection h with h _; subst h; trivial
          · cases h
        · cases h
      · split at h
        · split at h
          · split at h
            · injection h with h; injection h with h _; subst h; trivial
            · cases h
          · cases h
        · cases h
      · split at h
        · split at h
          · split at h
            · split at h
              · split at h
                · injection h with h; injection h with h _; subst h; trivial
                · cases h
              · cases h
            · cases h
          · cases h
        · cases h
      · rename_i ho
        rw [ho] at hf
        simp [freeOf] at hf
      · cases h
end Go.Proofs.AI

namespace Go.Proofs.AI
open Go.RowKit
set_option linter.unusedVariables false
set_option linter.unusedSimpArgs false

def bits : List Nat → Nat
  | [] => 0
  | k :: r => Nat.lor (Nat.shiftLeft 1 k) (bits r)
def hasB (m j : Nat) : Bool := Nat.beq (Nat.land (Nat.shiftRight m j) 1) 1
theorem hasB_eq (m j : Nat) : hasB m j = m.testBit j := by
  have h1 : hasB m j = decide (m >>> j % 2 = 1) := by
    unfold hasB
    rw [show Nat.land (Nat.shiftRight m j) 1 = (m >>> j) % 2 from Nat.and_one_is_mod _]
    cases h : Nat.beq (m >>> j % 2) 1 with
    | true => exact (decide_eq_true (Nat.eq_of_beq_eq_true h)).symm
    | false => exact (decide_eq_false (Nat.ne_of_beq_eq_false h)).symm
  rw [h1]
  simp [Nat.testBit, Nat.and_comm 1, Nat.and_one_is_mod]
theorem lor_bit (a b j : Nat) : (Nat.lor a b).testBit j = (a.testBit j || b.testBit j) := Nat.testBit_or a b j
theorem one_bit (k j : Nat) : (Nat.shiftLeft 1 k).testBit j = decide (j = k) := by
  rw [show Nat.shiftLeft 1 k = 1 <<< k from rfl, Nat.testBit_shiftLeft]
  by_cases h : j = k
  · subst h; simp
  · simp only [h, decide_false, Bool.and_eq_false_iff, decide_eq_false_iff_not]
    by_cases h1 : k ≤ j
    · exact .inr (by
        have : j - k ≠ 0 := by omega
        have h2 := Nat.testBit_one_eq_true_iff_self_eq_zero (i := j - k)
        cases h3 : Nat.testBit 1 (j - k) with
        | false => rfl
        | true => exact absurd (h2.1 h3) this)
    · exact .inl h1
theorem bits_bit : ∀ (l : List Nat) (j : Nat), (bits l).testBit j = true ↔ j ∈ l
  | [], j => by simp [bits]
  | k :: r, j => by rw [bits, lor_bit, one_bit, Bool.or_eq_true, bits_bit r, List.mem_cons]; simp
def aparts (a w b v : Nat) : Bool := Nat.beq (Nat.land w b) 0 && Nat.beq (Nat.land v a) 0
theorem land_zero {a b j : Nat} (h : Nat.beq (Nat.land a b) 0 = true) (ha : a.testBit j = true) : b.testBit j = false := by
  have h0 : a &&& b = 0 := Nat.eq_of_beq_eq_true h
  have := congrArg (·.testBit j) h0
  simpa [ha] using this
theorem aparts_ok {x y : RW} (h : aparts (Nat.lor (bits x.r) (bits x.w)) (bits x.w) (Nat.lor (bits y.r) (bits y.w)) (bits y.w) = true) : x.apart y = true := by
  simp only [aparts, Bool.and_eq_true] at h
  simp only [RW.apart, Bool.and_eq_true, List.all_eq_true, Bool.not_eq_true', List.contains_eq_mem, decide_eq_false_iff_not]
  have one : ∀ {w a b : List Nat}, Nat.beq (Nat.land (bits w) (Nat.lor (bits a) (bits b))) 0 = true → ∀ k ∈ w, ¬ k ∈ a ∧ ¬ k ∈ b := fun {w a b} h k hk => by
    have := land_zero h ((bits_bit w k).2 hk)
    rw [lor_bit, Bool.or_eq_false_iff] at this
    refine ⟨fun hc => ?_, fun hc => ?_⟩
    · rw [(bits_bit a k).2 hc] at this; simp at this
    · rw [(bits_bit b k).2 hc] at this; simp at this
  exact ⟨one h.1, one h.2⟩
def am (A : List Nat) : List Edge → Nat
  | [] => 0
  | e :: r => match Region.binds .any e with
    | true => Nat.lor (Nat.lor (Nat.shiftLeft 1 e.on) (A.getD e.on 0)) (am A r)
    | false => am A r
theorem am_bit {A : List Nat} : ∀ {l : List Edge} {j : Nat}, (am A l).testBit j = true → ∃ e ∈ l, Region.binds .any e = true ∧ (e.on = j ∨ (A.getD e.on 0).testBit j = true)
  | [], j, h => by simp [am] at h
  | e :: r, j, h => by
    simp only [am] at h
    split at h
    · rename_i hb
      rw [lor_bit, lor_bit, one_bit, Bool.or_eq_true, Bool.or_eq_true] at h
      rcases h with (h | h) | h
      · exact ⟨e, by simp, hb, .inl (by simpa using (of_decide_eq_true h).symm)⟩
      · exact ⟨e, by simp, hb, .inr h⟩
      · obtain ⟨e', h1, h2⟩ := am_bit h
        exact ⟨e', by simp [h1], h2⟩
    · obtain ⟨e', h1, h2⟩ := am_bit h
      exact ⟨e', by simp [h1], h2⟩
def fcN (n : Nat) (k : Nat → Bool) : Bool := match n with
  | 0 => k 0
  | m + 1 => k (m + 1)
theorem fcN_eq (n : Nat) (k : Nat → Bool) : fcN n k = k n := by cases n <;> rfl
def snocK : List Nat → Nat → (List Nat → Bool) → Bool
  | [], a, k => k [a]
  | x :: r, a, k => snocK r a fun r => k (x :: r)
theorem snocK_eq : ∀ (l : List Nat) (a : Nat) (k : List Nat → Bool), snocK l a k = k (l ++ [a])
  | [], a, k => rfl
  | x :: r, a, k => by simp [snocK, snocK_eq r]
def withA : List Oper → List Nat → (List Nat → Bool) → Bool
  | [], A, k => k A
  | o :: r, A, k => fcN (am A o.after.toList) fun a => snocK A a fun A => withA r A k
theorem withA_some : ∀ {l : List Oper} {A : List Nat} {k : List Nat → Bool}, withA l A k = true → ∃ A', k A' = true
  | [], A, k, h => ⟨A, h⟩
  | o :: r, A, k, h => by
    simp only [withA, fcN_eq, snocK_eq] at h
    exact withA_some h
def maskOf (x : RW) : Nat × Nat := (Nat.lor (bits x.r) (bits x.w), bits x.w)
def withM : List RW → (List (Nat × Nat) → Bool) → Bool
  | [], k => k []
  | x :: r, k => fcN (bits x.w) fun w => fcN (Nat.lor (bits x.r) w) fun a => withM r fun r => k ((a, w) :: r)
theorem withM_eq : ∀ (l : List RW) (k : List (Nat × Nat) → Bool), withM l k = k (l.map maskOf)
  | [], k => rfl
  | x :: r, k => by simp [withM, fcN_eq, withM_eq r, maskOf]
/-- Before place 'i', all is apart from x, or waited for. -/
def clearB (a : Nat) (x : Nat × Nat) : List (Nat × Nat) → Nat → Nat → Bool
  | _, _, 0 => true
  | y :: r, j, i + 1 => (aparts y.1 y.2 x.1 x.2 || hasB a j) && clearB a x r (j + 1) i
  | [], _, _ + 1 => false
theorem clearB_ok {a : Nat} {x : Nat × Nat} : ∀ {M : List (Nat × Nat)} {j i : Nat}, clearB a x M j i = true → ∀ k, k < i → ∃ y, M[k]? = some y ∧ (aparts y.1 y.2 x.1 x.2 = true ∨ a.testBit (j + k) = true)
  | _, _, 0, _, k, hk => by omega
  | [], _, _ + 1, h, _, _ => by simp [clearB] at h
  | y :: r, j, i + 1, h, k, hk => by
    simp only [clearB, Bool.and_eq_true, Bool.or_eq_true, hasB_eq] at h
    cases k with
    | zero => exact ⟨y, by simp, h.1⟩
    | succ k =>
      obtain ⟨y', h1, h2⟩ := clearB_ok h.2 k (by omega)
      exact ⟨y', by simpa using h1, by rw [show j + (k + 1) = j + 1 + k by omega]; exact h2⟩
def dstB (n : Nat) (pn : List Nat) (o : Oper) : Bool := match o.dst with
  | some d => Nat.ble (d + 1) n && !pn.contains d
  | none => true
def okFrom (n : Nat) (pn : List Nat) (A : List Nat) (M : List (Nat × Nat)) : List Oper → List Nat → List (Nat × Nat) → Nat → Bool
  | [], _, _, _ => true
  | o :: r, a :: ra, x :: rx, i => (o.after.toList.all fun e => !Region.binds .any e || Nat.ble (e.on + 1) i) && Nat.beq a (am A o.after.toList) && clearB a x M 0 i && dstB n pn o && okFrom n pn A M r ra rx (i + 1)
  | _, _, _, _ => false
theorem okFrom_at {n : Nat} {pn : List Nat} {A : List Nat} {M : List (Nat × Nat)} : ∀ {r : List Oper} {ra : List Nat} {rx : List (Nat × Nat)} {i : Nat}, okFrom n pn A M r ra rx i = true → ∀ (j : Nat) o, r[j]? = some o →
    ∃ a x, ra[j]? = some a ∧ rx[j]? = some x ∧ (∀ e ∈ o.after.toList, Region.binds .any e = true → e.on < i + j) ∧ a = am A o.after.toList ∧ clearB a x M 0 (i + j) = true ∧ ∀ d, o.dst = some d → d < n ∧ d ∉ pn
  | [], _, _, _, _, j, o, ho => by simp at ho
  | _ :: _, [], _, _, h, _, _, _ => by simp [okFrom] at h
  | _ :: _, _ :: _, [], _, h, _, _, _ => by simp [okFrom] at h
  | o' :: r, a :: ra, x :: rx, i, h, j, o, ho => by
    simp only [okFrom, Bool.and_eq_true] at h
    obtain ⟨⟨⟨⟨h1, h2⟩, h3⟩, h4⟩, h5⟩ := h
    cases j with
    | zero =>
      simp at ho; subst ho
      refine ⟨a, x, by simp, by simp, fun e he hb => by have := List.all_eq_true.1 h1 e he; rw [hb] at this; exact Nat.le_of_ble_eq_true (by simpa using this), Nat.eq_of_beq_eq_true h2, h3, fun d hd => ?_⟩
      simp only [dstB, hd, Bool.and_eq_true] at h4
      exact ⟨Nat.le_of_ble_eq_true h4.1, by simpa using h4.2⟩
    | succ j =>
      have := okFrom_at h5 j o (by simpa using ho)
      rw [show i + 1 + j = i + (j + 1) by omega] at this
      simpa using this
def okMask (n : Nat) (pn : List Nat) (ops : List Oper) (rw : List RW) : Bool := withA ops [] fun A => withM rw fun M => okFrom n pn A M ops A M 0
theorem region_mask {P : Program} {S : List Nat} {id : Nat} {l : List Oper} {rw : List RW} {cx : Cx} {σ τ : St} {a : Act} {w : World} {Q : Exit → Act → World → Prop} (hP : cx.P = P) (hm : P.follows .mixedOrders = true)
    (hok : okMask cx.n cx.pn l rw = true) (hbx : Bxs S σ) (ht : Tr P S l.toArray (rwAt rw) (List.range l.length) σ τ) (hr : At cx σ a w) (hQ : ∀ a w, At cx τ a w → Q .normal a w) : (Code.region id l.toArray true).wp P Q a w := by
  unfold okMask at hok
  obtain ⟨A, hok⟩ := withA_some hok
  rw [withM_eq] at hok
  have fact := okFrom_at hok
  simp only [Nat.zero_add] at fact
  generalize hanc : (fun i => (List.range l.length).filter fun j => (A.getD i 0).testBit j) = anc
  have inAnc : ∀ i j, j ∈ anc i ↔ j < l.length ∧ (A.getD i 0).testBit j = true := fun i j => by subst hanc; simp
  have hall : ∀ (i : Nat) o, l[i]? = some o → (∀ e ∈ o.after, Region.binds .any e = true → e.on < i) ∧ (∀ j ∈ anc i, ∃ e ∈ o.after, Region.binds .any e = true ∧ (e.on = j ∨ j ∈ anc e.on)) ∧
      (∀ j < i, (rwAt rw j).apart (rwAt rw i) = true ∨ j ∈ anc i) ∧ (∀ d, o.dst = some d → d < cx.n ∧ d ∉ cx.pn) := by
    intro i o ho
    have hi : i < l.length := (List.getElem?_eq_some_iff.1 ho).1
    obtain ⟨m, x, h1, h2, h3, h4, h5, h6⟩ := fact i o ho
    have hA : A.getD i 0 = m := by simp [List.getD_eq_getElem?_getD, h1]
    refine ⟨fun e he => h3 e (by simpa using he), fun j hj => ?_, fun j hj => ?_, h6⟩
    · obtain ⟨hj1, hj2⟩ := (inAnc i j).1 hj
      rw [hA, h4] at hj2
      obtain ⟨e, he, hb, h7⟩ := am_bit hj2
      exact ⟨e, by simpa using he, hb, h7.imp (fun h => h) fun h7 => (inAnc _ _).2 ⟨hj1, h7⟩⟩
    · obtain ⟨y, h7, h8⟩ := clearB_ok h5 j hj
      rw [Nat.zero_add] at h8
      rcases h8 with h8 | h8
      · left
        rw [List.getElem?_map] at h7 h2
        obtain ⟨y0, e1, rfl⟩ := Option.map_eq_some_iff.1 h7
        obtain ⟨x0, e2, rfl⟩ := Option.map_eq_some_iff.1 h2
        simp only [rwAt, List.getD_eq_getElem?_getD, e1, e2, Option.getD_some]
        exact aparts_ok h8
      · exact .inr ((inAnc i j).2 ⟨by omega, by rw [hA]; exact h8⟩)
  have get : ∀ (i : Nat) o, l.toArray[i]? = some o → l[i]? = some o := fun i o h => by simpa using h
  refine wp_region_any hm (tr_any (anc := anc) (fun i o ho j hj => (hall i o (get i o ho)).2.1 j hj) (fun i o ho => (hall i o (get i o ho)).1)
    (fun i hi j hj => (hall i _ (List.getElem?_eq_getElem (by simpa using hi))).2.2.1 j hj) hP (fun i o d ho hd => (hall i o (get i o ho)).2.2.2 d hd) hQ _ _ (List.range l.length) σ a _ (by simp) (by simp) (fun i => ?_) (List.pairwise_lt_range) (fun i o ho hl => ?_) ht hbx hr.drew)
  · simp only [List.mem_range, List.size_toArray]
    constructor
    · intro h
      refine ⟨h, ?_⟩
      simp [Array.getD_eq_getD_getElem?, h]
    · exact fun h => h.1
  · have hi : i < l.length := (List.getElem?_eq_some_iff.1 (get i o ho)).1
    simp [Array.getD_eq_getD_getElem?, hi] at hl
end Go.Proofs.AI

namespace Go.Proofs.AI
open Go.RowKit
set_option linter.unusedVariables false
set_option linter.unusedSimpArgs false
def sip (T : Tab) (σ : St) (t : TypeId) (x : Operand) : Option Ate :=
  match x with
  | .tmp k => match σ k with
    | some ⟨.box, cells, l⟩ => match T t with
      | some i => match i.k with
        | .st => if i.size = cells.length then some ⟨true, cells, [(k, ⟨.box, cells.map unOw, l⟩)]⟩ else none
        | _ => none
      | none => none
    | _ => none
  | _ => none
theorem sip_ok {cx : Cx} {I : Nat → Prop} {U : Nat → Nat → Value} {B : Nat → Nat × Nat} {F : Nat → FP} {σ : St} {a : Act} {w : World} (h : RelW cx I U B F σ a w) {T : Tab} (hT : TabOk cx.P T) {t : TypeId} {x : Operand} {e : Ate} (he : sip T σ t x = some e) :
    ∃ v us F' N, (Instr.loadAt t (a.eval x)).run cx.P w = .ok v w ∧ Eaten cx I U B (ups σ e.out) a w F v e us F' N := by
  unfold sip at he
  split at he
  · rename_i k
    split at he
    · rename_i cells l hK
      split at he
      · rename_i i hi
        split at he
        · rename_i hk
          split at he
          · rename_i hsz
            injection he with he; subst he
            obtain ⟨hkn, hroot, _⟩ := h.key k _ hK
            obtain ⟨N, n1, n2, n3, n4⟩ := h.takeAll hK
            have hne : k ≠ cx.n := Nat.ne_of_lt hkn
            obtain ⟨_, _, hv, cur, e, hb, hcur⟩ := hroot
            have hcell : ∀ j, j < cells.length → w.cell? ⟨(B k).1, (B k).2 + j, none⟩ = some (U k j) := fun j hj => by simp [World.cell?, hb, hcur j hj]
            have hev : a.eval (.tmp k) = .pointer (some ⟨(B k).1, (B k).2, none⟩) := hv
            refine ⟨_, U k, _, N, by rw [hev]; exact load_agg hT hi hk (U k) (fun j hj => by rw [Addr.add_lit]; exact hcell j (by omega)), n4, ?_, n1, n2, fun o b hb => ⟨?_, fun hf => hne (h.dis _ _ _ (n3 o b hb).1 hf), (n3 o b hb).2⟩, fun b hb => ?_, fun b hb => ?_⟩
            · simp only [valCells, if_true]
              refine ⟨_, rfl, by simp [hsz], fun o ho => ?_⟩
              have ho : o < i.size := by rw [hsz]; exact ho
              simp [ho]
            · simp [Ne.symm hne]; exact .inr ⟨o, hb⟩
            · simp [Ne.symm hne]; exact .inl hb
            · simpa [Ne.symm hne] using hb
          · cases he
        · cases he
      · cases he
    · cases he
  · cases he
theorem snd_sip {P : Program} {T : Tab} (hT : TabOk P T) {σ : St} {o : Oper} {d : Nat} {t : TypeId} {x : Operand} (hd : o.dst = some d) (ho : o.op = .load t x) {e : Ate} (he : sip T σ t x = some e) :
    Snd P σ o (up (ups σ e.out) d ⟨if e.agg then .agg else .one, e.cells, logAt (ups σ e.out) d⟩) := by
  intro cx a w hP ⟨I, U, B, F, hr⟩ hdn K Q hK
  subst hP
  obtain ⟨v, us, F', N, hl, hE⟩ := sip_ok (held_none hr) hT he
  unfold Oper.wp execOp
  simp only [ho]
  rw [Sem.run_bind, hl]
  simp only [Result.andThen, Sem.run_pure, Oper.upon_value]
  rw [hd]
  exact hK _ _ (hE.put (by simp) (hdn d hd))
theorem sub_sip {σ σ' : St} (h : Sub σ σ') {T : Tab} {t : TypeId} {x : Operand} {e : Ate} (hs : sip T σ t x = some e) : sip T σ' t x = some e := by
  cases x with
  | tmp k =>
    simp only [sip] at hs ⊢
    cases hk : σ k with
    | none => rw [hk] at hs; cases hs
    | some K => rw [hk] at hs; rw [h k K hk]; exact hs
  | _ => cases hs
section
variable {P : Program} {S : List Nat} {ops : Array Oper} {i : Nat} {o : Oper} {σ : St} {T : Tab}
theorem ops_sip (hT : TabOk P T) (hi : ops[i]? = some o) (hw : Want ops σ o.guard true) {d : Nat} {t : TypeId} {x : Operand} (hd : o.dst = some d) (ho : o.op = .load t x) {e : Ate} (he : sip T σ t x = some e) :
    OpS P S ops i σ (e.out ++ [(d, ⟨if e.agg then .agg else .one, e.cells, logAt (ups σ e.out) d⟩)]) := by
  refine ops_on hi hw fun σ' hs hl => ?_
  rw [ups_append]
  simp only [ups]
  rw [← logAt_ups (hl d hd)]
  exact snd_sip hT hd ho (sub_sip hs he)
end
/-- How long a slice is that lies in a row of another: bounds aside, with what they ask. -/
def lenF (T : Tab) (σ : St) (t : TypeId) (x : Operand) : Option (Prop × CV) :=
  match one1 σ x with
  | some (.v e k o p n none) => match σ k with
    | some K => if stale K.log n o p then none else match K.cells[o]? with
      | some (.c y) => match y.getF p with
        | some (.ow e' es) => if e = e' then match T t with
          | some ⟨.sl _, _, _, _, _, _, _⟩ => some (wayOb y p, .n .i64 es.n)
          | _ => none
          else none
        | _ => none
      | _ => none
    | none => none
  | _ => none
theorem lenF_ok {T : Tab} {σ : St} {t : TypeId} {x : Operand} {ob : Prop} {z : CV} (h : lenF T σ t x = some (ob, z)) (hob : ob) : rd1 T σ (.call ⟨.builtin .len, #[x], #[t]⟩) = some (True, .one (.c z)) := by
  unfold lenF at h
  split at h
  · rename_i e k o p n hx
    split at h
    · rename_i K hK
      split at h
      · cases h
      · rename_i hs
        split at h
        · rename_i y hy
          split at h
          · rename_i e' es hg
            split at h
            · rename_i he
              split at h
              · rename_i hT
                injection h with h; injection h with h1 h2
                subst h1 h2
                have hget := (getF_eq hob).trans hg
                simp only [rd1, hx, vLen, rowsAt, hK, hs, hy, hget, he, hT, if_true, Option.map_some, Bool.false_eq_true, if_false]
              · cases h
            · cases h
          · cases h
        · cases h
    · cases h
  · cases h
end Go.Proofs.AI

namespace Go.Proofs.AI
open Go.RowKit
set_option linter.unusedVariables false
set_option linter.unusedSimpArgs false

/-! Data made plain before one goes on: what these say is 'k x', but the kernel works out x first. -/
mutual
def fcCV : CV → (CV → Prop) → Prop
  | .any, k => k .any
  | .b x, k => k (.b x)
  | .n i x, k => k (.n i x)
  | .s x, k => k (.s x)
  | .vl v, k => k (.vl v)
  | .sh e r, k => k (.sh e r)
  | .ow e r, k => k (.ow e r)
  | .rp r, k => fcCVs r fun r => k (.rp r)
  | .fn f r, k => fcCVs r fun r => k (.fn f r)
def fcCVs : List CV → (List CV → Prop) → Prop
  | [], k => k []
  | x :: r, k => fcCV x fun x => fcCVs r fun r => k (x :: r)
end
mutual
theorem fcCV_eq : ∀ (x : CV) (k : CV → Prop), fcCV x k = k x
  | .any, _ | .b _, _ | .n _ _, _ | .s _, _ | .vl _, _ | .sh _ _, _ | .ow _ _, _ => by simp only [fcCV]
  | .rp r, k => by simp only [fcCV, fcCVs_eq r]
  | .fn f r, k => by simp only [fcCV, fcCVs_eq r]
theorem fcCVs_eq : ∀ (l : List CV) (k : List CV → Prop), fcCVs l k = k l
  | [], _ => by simp only [fcCVs]
  | x :: r, k => by simp only [fcCVs, fcCV_eq x, fcCVs_eq r]
end
def fcKs : List (Nat × Nat) → (List (Nat × Nat) → Prop) → Prop
  | [], k => k []
  | (a, b) :: r, k => fcKs r fun r => k ((a, b) :: r)
theorem fcKs_eq : ∀ (l : List (Nat × Nat)) (k : List (Nat × Nat) → Prop), fcKs l k = k l
  | [], k => rfl
  | (a, b) :: r, k => by simp [fcKs, fcKs_eq r]
def fcSC : SC → (SC → Prop) → Prop
  | .c x, k => fcCV x fun x => k (.c x)
  | .v e a o p n r, k => k (.v e a o p n r)
  | .pr a o n, k => k (.pr a o n)
  | .p e a o p n i j, k => k (.p e a o p n i j)
  | .q row o, k => fcCVs row fun row => k (.q row o)
  | .fn f ks, k => fcKs ks fun ks => k (.fn f ks)
theorem fcSC_eq (x : SC) (k : SC → Prop) : fcSC x k = k x := by cases x <;> simp [fcSC, fcCV_eq, fcCVs_eq, fcKs_eq]
def fcSCs : List SC → (List SC → Prop) → Prop
  | [], k => k []
  | x :: r, k => fcSC x fun x => fcSCs r fun r => k (x :: r)
theorem fcSCs_eq : ∀ (l : List SC) (k : List SC → Prop), fcSCs l k = k l
  | [], k => rfl
  | x :: r, k => by simp [fcSCs, fcSC_eq, fcSCs_eq r]
def fcLog : Log → (Log → Prop) → Prop
  | [], k => k []
  | x :: r, k => fcLog r fun r => k (x :: r)
theorem fcLog_eq : ∀ (l : Log) (k : Log → Prop), fcLog l k = k l
  | [], k => rfl
  | x :: r, k => by simp [fcLog, fcLog_eq r]
def fcSh : Sh → (Sh → Prop) → Prop
  | .one, k => k .one
  | .agg, k => k .agg
  | .box, k => k .box
  | .tup l, k => k (.tup l)
theorem fcSh_eq (x : Sh) (k : Sh → Prop) : fcSh x k = k x := by cases x <;> rfl
def fcKy : Ky → (Ky → Prop) → Prop
  | ⟨sh, cells, log⟩, k => fcSh sh fun sh => fcSCs cells fun cells => fcLog log fun log => k ⟨sh, cells, log⟩
theorem fcKy_eq (x : Ky) (k : Ky → Prop) : fcKy x k = k x := by cases x; simp [fcKy, fcSh_eq, fcSCs_eq, fcLog_eq]
def fcL : L → (L → Prop) → Prop
  | [], k => k []
  | (d, K) :: r, k => fcKy K fun K => fcL r fun r => k ((d, K) :: r)
theorem fcL_eq : ∀ (l : L) (k : L → Prop), fcL l k = k l
  | [], k => rfl
  | (d, K) :: r, k => by simp [fcL, fcKy_eq, fcL_eq r]
def pushL : L → L → (L → Prop) → Prop
  | [], s, k => k s
  | (d, K) :: r, s, k => fcKy K fun K => pushL r ((d, K) :: s) k
theorem pushL_eq : ∀ (l s : L) (k : L → Prop), pushL l s k = k (l.reverse ++ s)
  | [], s, k => rfl
  | (d, K) :: r, s, k => by simp [pushL, fcKy_eq, pushL_eq r]
def fcNs : List Nat → (List Nat → Prop) → Prop
  | [], k => k []
  | x :: r, k => fcNs r fun r => k (x :: r)
theorem fcNs_eq : ∀ (l : List Nat) (k : List Nat → Prop), fcNs l k = k l
  | [], k => rfl
  | x :: r, k => by simp [fcNs, fcNs_eq r]
def fcKN : KN → (KN → Prop) → Prop
  | [], k => k []
  | (t, true) :: r, k => fcKN r fun r => k ((t, true) :: r)
  | (t, false) :: r, k => fcKN r fun r => k ((t, false) :: r)
theorem fcKN_eq : ∀ (l : KN) (k : KN → Prop), fcKN l k = k l
  | [], k => rfl
  | (t, true) :: r, k => by simp [fcKN, fcKN_eq r]
  | (t, false) :: r, k => by simp [fcKN, fcKN_eq r]
def fcRW : List RW → (List RW → Prop) → Prop
  | [], k => k []
  | ⟨a, b⟩ :: r, k => fcNs a fun a => fcNs b fun b => fcRW r fun r => k (⟨a, b⟩ :: r)
theorem fcRW_eq : ∀ (l : List RW) (k : List RW → Prop), fcRW l k = k l
  | [], k => rfl
  | ⟨a, b⟩ :: r, k => by simp [fcRW, fcNs_eq, fcRW_eq r]
/-- Cells that hold no slice. -/
def scal : SC → Bool
  | .c (.sh _ _) => false
  | .c (.ow _ _) => false
  | .c (.rp _) => false
  | .c (.fn _ _) => false
  | .c _ => true
  | _ => false
def scalK (l : L) (j : Nat) : Bool := match mk l j with
  | some K => K.cells.all scal
  | none => true
def lentK (m : Nat) (l : L) (r : List Inn) (Q : Prop) : Prop := match lentL r with
  | [] => Q
  | _ :: _ => match scalK l m && (bxsL 0 r).all (fun p => scalK l p.1) with
    | true => Q
    | false => (shOf l m ∧ boxSh l (bxsL 0 r)) ∧ Q
/-- The bounds of the looks that are handed in. -/
def cellsObK (σ : St) : List SC → Prop → Prop
  | [], Q => Q
  | .v e k o (q :: p) n r :: xs, Q => lendOb σ (.v e k o (q :: p) n r) ∧ cellsObK σ xs Q
  | .fn f ks :: xs, Q => lendOb σ (.fn f ks) ∧ cellsObK σ xs Q
  | _ :: xs, Q => cellsObK σ xs Q
def argsObK (σ : St) : List Operand → Prop → Prop
  | [], Q => Q
  | .tmp t :: xs, Q => match σ t with
    | some K => cellsObK σ K.cells (argsObK σ xs Q)
    | none => False
  | _ :: xs, Q => argsObK σ xs Q
theorem cellsObK_ok {σ : St} : ∀ {l : List SC} {Q : Prop}, cellsObK σ l Q → (∀ y ∈ l, lendOb σ y) ∧ Q
  | [], Q, h => ⟨fun y hy => by simp at hy, h⟩
  | x :: xs, Q, h => by
    unfold cellsObK at h
    split at h
    · rename_i heq; cases heq
    · rename_i heq
      injection heq with e1 e2; subst e1 e2
      obtain ⟨h1, h2⟩ := cellsObK_ok h.2
      exact ⟨fun y hy => by rcases List.mem_cons.1 hy with rfl | hy; exact h.1; exact h1 y hy, h2⟩
    · rename_i heq
      injection heq with e1 e2; subst e1 e2
      obtain ⟨h1, h2⟩ := cellsObK_ok h.2
      exact ⟨fun y hy => by rcases List.mem_cons.1 hy with rfl | hy; exact h.1; exact h1 y hy, h2⟩
    · rename_i x' xs' hne hne2 heq
      injection heq with e1 e2; subst e1 e2
      obtain ⟨h1, h2⟩ := cellsObK_ok h
      refine ⟨fun y hy => ?_, h2⟩
      rcases List.mem_cons.1 hy with rfl | hy
      · refine lendObN_no ?_
        cases y with
        | v e k o p n r => cases p with
          | nil => rfl
          | cons q p => exact absurd rfl (hne e k o q p n r)
        | fn f ks => exact absurd rfl (hne2 f ks)
        | _ => rfl
      · exact h1 y hy
theorem argsObK_ok {σ : St} : ∀ {xs : List Operand} {Q : Prop}, argsObK σ xs Q → argsOb σ xs ∧ Q
  | [], Q, h => ⟨fun t ht => by simp at ht, h⟩
  | .tmp t :: xs, Q, h => by
    simp only [argsObK] at h
    split at h
    · rename_i K hK
      obtain ⟨h1, h2⟩ := cellsObK_ok h
      obtain ⟨h3, h4⟩ := argsObK_ok h2
      refine ⟨fun t' ht => ?_, h4⟩
      rcases List.mem_cons.1 ht with e | ht
      · cases e; exact ⟨K, hK, h1⟩
      · exact h3 t' ht
    · exact h.elim
  | .const v :: xs, Q, h => by
    simp only [argsObK] at h
    obtain ⟨h3, h4⟩ := argsObK_ok h
    exact ⟨fun t' ht => h3 t' (by simpa using ht), h4⟩
  | .global g :: xs, Q, h => by
    simp only [argsObK] at h
    obtain ⟨h3, h4⟩ := argsObK_ok h
    exact ⟨fun t' ht => h3 t' (by simpa using ht), h4⟩
  | .func f :: xs, Q, h => by
    simp only [argsObK] at h
    obtain ⟨h3, h4⟩ := argsObK_ok h
    exact ⟨fun t' ht => h3 t' (by simpa using ht), h4⟩
def callK {P : Program} (σ : St) (d : Nat) (args : List Operand) (caps : List CV) (c : Con P) (K : L → Prop) : Prop :=
  match passG σ (args.zip c.mds) with
  | some (gs, out) => match argsIn (ups σ out) (args.zip c.mds) gs with
    | some r0 => if c.mds.length = args.length ∧ c.m = args.length + caps.length ∧ (bxsL 0 (r0 ++ capsL caps)).map (·.1) = c.bx then
        argsObK (ups σ out) args (∃ b, sameL (insL 0 (r0 ++ capsL caps)) (c.ins b) ∧ preK c.pre b (altK c.alt c.out b fun l => lentK c.m l (r0 ++ capsL caps) (match callCk d c.m l (r0 ++ capsL caps) with
          | true => K (callOuts σ d c.m out l (r0 ++ capsL caps))
          | false => False)))
        else False
    | none => False
  | none => False
def actK (T : Tab) (σ : St) (o : Oper) (K : L → Prop) : Prop :=
  match act1 T σ o with
  | some (ob, outs) => match freeOf σ o.op with
    | true => K outs
    | false => ob ∧ K outs
  | none => False
/-- One operation. -/
def execK {P : Program} (T : Tab) (CT : FuncId → Option (Con P)) (σ : St) (o : Oper) (K : L → Prop) : Prop :=
  match o.op with
  | .call ⟨.value cl, args, _⟩ => match one1 σ cl with
    | some s => match calleeOf s with
      | some (f, caps) => match CT f, o.dst with
        | some c, some d => if c.f = f then callK σ d args.toList caps c K else False
        | _, _ => False
      | none => False
    | none => False
  | .convert s t x => match vConvS T σ s t x with
    | some c => match o.dst with
      | some d => K [(d, ⟨.one, [.c c], logAt σ d⟩)]
      | none => False
    | none => actK T σ o K
  | _ => actK T σ o K
/-- One operation; a move may take what it moves. -/
def execT {P : Program} (T : Tab) (CT : FuncId → Option (Con P)) (tk : Bool) (σ : St) (o : Oper) (K : L → Prop) : Prop :=
  match tk with
  | false => execK T CT σ o K
  | true => match o.op with
    | .move x => match o.dst with
      | some d => match steal σ x with
        | some e => K (e.out ++ [(d, ⟨if e.agg then .agg else .one, e.cells, logAt (ups σ e.out) d⟩)])
        | none => False
      | none => False
    | .load t x => match o.dst with
      | some d => match sip T σ t x with
        | some e => K (e.out ++ [(d, ⟨if e.agg then .agg else .one, e.cells, logAt (ups σ e.out) d⟩)])
        | none => False
      | none => False
    | .call ⟨.builtin .len, ⟨[x]⟩, ⟨[t]⟩⟩ => match o.dst with
      | some d => match lenF T σ t x with
        | some (ob, z) => ob ∧ K [(d, ⟨.one, [.c z], logAt σ d⟩)]
        | none => False
      | none => False
    | _ => False
/-- A pointer of the parameters S, moved. -/
def pinOf (S : List Nat) (o : Oper) : Option (Nat × Nat) := match o.op with
  | .move (.tmp t) => match S.contains t with
    | true => match o.dst with
      | some d => some (d, t)
      | none => none
    | false => none
  | _ => none
def execP {P : Program} (T : Tab) (CT : FuncId → Option (Con P)) (S : List Nat) (tk : Bool) (σ : St) (o : Oper) (K : L → Prop) : Prop :=
  match pinOf S o with
  | some (d, t) => K [(d, ⟨.one, [.pr t 0 0], logAt σ d⟩)]
  | none => execT T CT tk σ o K
def bxsK (S : List Nat) (s : L) : Bool := S.all fun t => match mk s t with
  | some ⟨.box, _, lg⟩ => !gone lg 0
  | _ => false
def tkAt (fz : List (Nat × List Nat)) (k : Nat) : Bool := match fz with
  | [] => false
  | (j, _) :: r => if j = 1000000 + k then true else tkAt r k
/-- A guard's slot, told true or false. -/
def setB (s : L) (t : Nat) (b : Bool) (lg : Log) : L := (t, ⟨.one, [.c (.b b)], lg⟩) :: s
/-- Whether an operation is wanted. -/
def guardK (all : List Oper) (s : L) (kn : KN) (g : Option (Nat × Bool)) (E O : L → KN → Prop) : Prop :=
  match g with
  | none => E s kn
  | some (g, b) => match all[g]? with
    | some og => match og.dst with
      | some t => match kget kn t with
        | some _ => match mk s t with
          | some ⟨.one, [.c (.b true)], _⟩ => match b with
            | true => E s kn
            | false => O s kn
          | some ⟨.one, [.c (.b false)], _⟩ => match b with
            | true => O s kn
            | false => E s kn
          | _ => False
        | none => match mk s t with
          | some ⟨.one, [.c (.b v)], lg⟩ => match b with
            | true => (v = true → E (setB s t true lg) ((t, true) :: kn)) ∧ (v = false → O (setB s t false lg) ((t, false) :: kn))
            | false => (v = false → E (setB s t false lg) ((t, false) :: kn)) ∧ (v = true → O (setB s t true lg) ((t, true) :: kn))
          | some ⟨.tup [], _, _⟩ => O s kn
          | _ => False
      | none => False
    | none => False
def gslot (all : List Oper) : Option (Nat × Bool) → List Nat
  | none => []
  | some (g, _) => match all[g]? with
    | some og => match og.dst with
      | some t => [t]
      | none => []
    | none => []
def fzOk (all : List Oper) (o : Oper) (ts : List Nat) : Bool := nodupB ts && (gslot all o.guard).all fun t => !ts.contains t
/-- Slots made read only. -/
def fzT : Bool → Tl
  | true => .fy
  | false => .fz
def fzK (z : Bool) (K : Ky) : Ky := retold K (K.cells.map fun _ => fzT z)
def fzL (z : Bool) (s : L) : List Nat → L
  | [] => []
  | t :: r => match mk s t with
    | some K => (t, fzK z K) :: fzL z s r
    | none => fzL z s r
/-- Whether only what rows own is made read only. -/
def fyAt (fz : List (Nat × List Nat)) (k : Nat) : Bool := match fz with
  | [] => false
  | (j, _) :: r => if j = 2000000 + k then true else fyAt r k
def fzAt (fz : List (Nat × List Nat)) (k : Nat) : List Nat := match fz with
  | [] => []
  | (j, l) :: r => if j = k then l else fzAt r k
/-- A plain region. -/
def evOps {P : Program} (T : Tab) (CT : FuncId → Option (Con P)) (fz : List (Nat × List Nat)) (all : List Oper) : List Oper → Nat → L → KN → (L → KN → Prop) → Prop
  | [], _, s, kn, K => K s kn
  | o :: r, k, s, kn, K => guardK all s kn o.guard
      (fun s kn => match fzAt fz k with
        | [] => execT T CT (tkAt fz k) (mk s) o fun outs => pushL outs s fun s => fcKN (kput kn o) fun kn => evOps T CT fz all r (k + 1) s kn K
        | _ :: _ => match fzOk all o (fzAt fz k) with
          | true => pushL (fzL (fyAt fz k) s (fzAt fz k)) s fun s => execT T CT (tkAt fz k) (mk s) o fun outs => pushL outs s fun s => fcKN (kput kn o) fun kn => evOps T CT fz all r (k + 1) s kn K
          | false => False)
      (fun s kn => pushL (offAt (mk s) o.dst) s fun s => fcKN (koff kn o) fun kn => evOps T CT fz all r (k + 1) s kn K)
def opsOf : Op → List Operand
  | .move x => [x] | .assign x => [x] | .box _ x => [x] | .load _ x => [x] | .nilCheck x => [x] | .unOp _ _ x => [x] | .convert _ _ x => [x]
  | .fieldAddr _ x _ => [x] | .field _ x _ => [x] | .extract x _ => [x]
  | .pick c a b => [c, a, b]
  | .build _ ps => ps.toList.map (·.2)
  | .buildSlice _ _ ps => ps.toList.map (·.2)
  | .store _ a v => [a, v] | .binOp _ _ a v _ => [a, v] | .makeSlice _ a v => [a, v] | .indexAddr _ a v => [a, v] | .index _ a v => [a, v]
  | .makeFunc _ a b => a.toList ++ b.toList
  | .slice _ x l h m => x :: (l.toList ++ h.toList ++ m.toList)
  | .call ⟨.value f, args, _⟩ => f :: args.toList
  | .call ⟨_, args, _⟩ => args.toList
  | _ => []
def keysAt (s : L) (t : Nat) : List Nat := match mk s t with
  | some K => K.cells.flatMap keysOf
  | none => []
def isV : SC → Bool
  | .v _ _ _ _ _ _ => true
  | _ => false
def noV (s : L) (t : Nat) : Bool := match mk s t with
  | some K => K.cells.all fun x => !isV x
  | none => true
/-- What an operation may look at. -/
def reads (S : List Nat) (all : List Oper) (s : L) (o : Oper) : List Nat :=
  let r0 := (match pinOf S o with
    | some _ => []
    | none => (opsOf o.op).flatMap tmps) ++ gslot all o.guard
  let r2 := match o.op with
    | .nilCheck _ => r0
    | .fieldAddr _ _ _ => r0
    | .move (.tmp t) => match noV s t with
      | true => r0
      | false =>
        let r1 := r0 ++ r0.flatMap (keysAt s)
        r1 ++ r1.flatMap (keysAt s)
    | _ =>
      let r1 := r0 ++ r0.flatMap (keysAt s)
      r1 ++ r1.flatMap (keysAt s)
  match o.dst with
  | some d => d :: r2
  | none => r2
def dstL : Option Nat → List Nat
  | some d => [d]
  | none => []
/-- A region of open order. -/
def evAny {P : Program} (T : Tab) (CT : FuncId → Option (Con P)) (n : Nat) (pn : List Nat) (fz : List (Nat × List Nat)) (all : List Oper) : List Oper → L → KN → List RW → (L → KN → Prop) → Prop
  | [], s, kn, acc, K => fcRW acc fun acc => match okMask n pn all acc with
    | true => K s kn
    | false => False
  | o :: r, s, kn, acc, K => guardK all s kn o.guard
      (fun s kn => fcNs (reads pn all s o) fun R => match fzAt fz acc.length with
        | [] => execP T CT pn (tkAt fz acc.length) (loc R (mk s)) o fun outs => fcL outs fun outs => match outs.all (fun p => R.contains p.1) && okBx pn outs with
          | true => pushL outs s fun s => fcKN (kput kn o) fun kn => evAny T CT n pn fz all r s kn (acc ++ [⟨R, dstL o.dst ++ outs.map (·.1)⟩]) K
          | false => False
        | _ :: _ => match fzOk all o (fzAt fz acc.length) && (fzAt fz acc.length).all fun t => R.contains t with
          | true => fcL (fzL (fyAt fz acc.length) s (fzAt fz acc.length)) fun z => execT T CT (tkAt fz acc.length) (ups (loc R (mk s)) z) o fun outs => fcL outs fun outs => match outs.all (fun p => R.contains p.1) && okBx pn (z ++ outs) with
            | true => pushL z s fun s => pushL outs s fun s => fcKN (kput kn o) fun kn => evAny T CT n pn fz all r s kn (acc ++ [⟨R, dstL o.dst ++ (z ++ outs).map (·.1)⟩]) K
            | false => False
          | false => False)
      (fun s kn => fcNs (reads pn all s o) fun R => match okBx pn (offAt (mk s) o.dst) with
        | true => pushL (offAt (mk s) o.dst) s fun s => fcKN (koff kn o) fun kn => evAny T CT n pn fz all r s kn (acc ++ [⟨R, dstL o.dst⟩]) K
        | false => False)
def findA {α : Type _} (k : Nat) : List (Nat × α) → Option α
  | [] => none
  | (j, v) :: r => if j = k then some v else findA k r
def fzOf (k : Nat) : List (Nat × List (Nat × List Nat)) → List (Nat × List Nat)
  | [] => []
  | (j, v) :: r => if j = k then v else fzOf k r
/-- What a function's walk goes by: frame, pinned boxes, live slots by region, loops by block. -/
structure Env (P : Program) where
  T : Tab
  CT : FuncId → Option (Con P)
  n : Nat
  pn : List Nat
  V : List (Nat × List Nat)
  LH : List (Nat × Fam)
  FZ : List (Nat × List (Nat × List Nat)) := []
  CUT : List (Nat × Fam) := []
  RC : List (Nat × List (Con P)) := []
def ctOf {P : Program} : List (Con P) → FuncId → Option (Con P)
  | [], _ => none
  | c :: r, f => if c.f = f then some c else ctOf r f
/-- The contracts of a region: its own ones first. -/
def ctIn {P : Program} (E : Env P) (id : Nat) : FuncId → Option (Con P) := match findA id E.RC with
  | some l => fun f => match ctOf l f with
    | some c => some c
    | none => E.CT f
  | none => E.CT
/-- The first region of a piece of code. -/
def firstR : Code → Option Nat
  | .region id _ _ => some id
  | .cond _ a b => match firstR a with
    | some k => some k
    | none => firstR b
  | .seq a _ => firstR a
  | .block _ b => firstR b
  | .scope b => firstR b
  | _ => none
/-- A cut's name: a region's own, a branching's 10000 and its first region's, a block's 20000 and its first region's. -/
def keyC : Code → Option Nat
  | .region id _ _ => some id
  | .cond _ a b => match firstR (.cond (.const (.bool true)) a b) with
    | some k => some (10000 + k)
    | none => none
  | .block _ b => match firstR b with
    | some k => some (20000 + k)
    | none => none
  | .seq a b => match firstR (.seq a b) with
    | some k => some (30000 + k)
    | none => none
  | _ => none
def findO {α : Type _} : Option Nat → List (Nat × α) → Option α
  | none, _ => none
  | some k, l => findA k l
def ev {P : Program} (E : Env P) : Code → Nat → L → KN → (Exit → L → KN → Prop) → Prop
  | .skip, _, s, kn, K => K .normal s kn
  | .region id ops d, _, s, kn, K => match findA id E.V with
    | some V => match d with
      | false => match okDst E.n E.pn ops.toList with
        | true => evOps E.T (ctIn E id) (fzOf id E.FZ) ops.toList ops.toList 0 s kn fun s kn => fcL (canonL V s) fun s => K .normal s kn
        | false => False
      | true => match bxsK E.pn s with
        | true => evAny E.T (ctIn E id) E.n E.pn (fzOf id E.FZ) ops.toList ops.toList s kn [] fun s kn => fcL (canonL V s) fun s => K .normal s kn
        | false => False
    | none => False
  | .seq a b, i, s, kn, K => match findO (keyC a) E.CUT with
    | none => ev E a i s kn fun e s kn => match e with
      | .normal => ev E b i s kn K
      | e => K e s kn
    | some F => ∃ (post : F.α → Prop), (ev E a i s kn fun e s kn => match e with
      | .normal => ∃ x, sameL s (F.st x) ∧ post x
      | e => K e s kn) ∧ ∀ x, post x → ev E b i (F.st x) [] K
  | .cond c a b, i, s, kn, K => match kofO kn c with
    | some _ => match oneC (mk s) c with
      | some (.b true) => ev E a i s kn K
      | some (.b false) => ev E b i s kn K
      | _ => False
    | none => match c with
      | .tmp d => match mk s d with
        | some ⟨.one, [.c (.b t)], lg⟩ => (t = true → ev E a i (setB s d true lg) ((d, true) :: kn) K) ∧ (t = false → ev E b i (setB s d false lg) ((d, false) :: kn) K)
        | _ => False
      | _ => False
  | .block id b, _, s, kn, K => ev E b id s kn fun e s kn => match e with
    | .exit j => if j = id then K .normal s kn else K (.exit j) s kn
    | e => K e s kn
  | .exit id, _, s, kn, K => K (.exit id) s kn
  | .ret, _, s, kn, K => K .ret s kn
  | .loop b, i, s, kn, K => match findA i E.LH with
    | some F => ∃ (pre : F.α → Prop) (μ : F.α → Nat) (x0 : F.α), sameL s (F.st x0) ∧ pre x0 ∧ ∀ x, pre x → ev E b i (F.st x) [] fun e s kn => match e with
      | .normal => ∃ y, sameL s (F.st y) ∧ pre y ∧ μ y < μ x
      | e => K e s kn
    | none => False
  | _, _, _, _, _ => False
end Go.Proofs.AI
