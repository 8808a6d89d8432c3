/- Two things apart, done at all places, in either order: plain Lean, no program in sight. Conditions: none. -/
import Derived.Test.YtcmjdjomidhdnaaGreatDoorGloN
import Derived.Test.YtcmjdjomidhdnaaGreatDoorGloL
import Derived.Test.YtcmjdjomidhdnaaGreatDoorGloM
import Derived.KernelRfl
namespace Go.Proofs.AI
open Go.RowKit Go.Proofs
set_option linter.unusedVariables false
set_option linter.unusedSimpArgs false
set_option maxRecDepth 100000
theorem ka_lt {n : Nat} (h : n < 10) : ByteArray.mk #[97] ++ natS n = ⟨#[97, UInt8.ofNat (48 + n)]⟩ := by
  rw [natS_lt h]; apply ByteArray.ext; simp [digS]
theorem ka_ge {n : Nat} (h : 10 ≤ n) (h2 : n < 100) : ByteArray.mk #[97] ++ natS n = ⟨#[97, UInt8.ofNat (48 + n / 10), UInt8.ofNat (48 + n % 10)]⟩ := by
  rw [natS_ge (by omega), natS_lt (by omega)]
  apply ByteArray.ext; simp [digS]
  exact ⟨congrArg _ (by omega), congrArg _ (by omega)⟩
theorem ka_inj {m n : Nat} (hm : m < 100) (hn : n < 100) (h : ByteArray.mk #[97] ++ natS m = ByteArray.mk #[97] ++ natS n) : m = n := by
  have b : ∀ k, k < 10 → (UInt8.ofNat (48 + k)).toNat = 48 + k := fun k hk => by rw [UInt8.toNat_ofNat']; omega
  have u : ∀ {j k : Nat}, j < 10 → k < 10 → UInt8.ofNat (48 + j) = UInt8.ofNat (48 + k) → j = k := fun {j k} hj hk e => by
    have := congrArg UInt8.toNat e
    rw [b j hj, b k hk] at this; omega
  rcases Nat.lt_or_ge m 10 with h1 | h1 <;> rcases Nat.lt_or_ge n 10 with h2 | h2
  · rw [ka_lt h1, ka_lt h2] at h
    simp only [ByteArray.mk.injEq, Array.mk.injEq, List.cons.injEq, true_and, and_true] at h
    exact u h1 h2 h
  · rw [ka_lt h1, ka_ge h2 hn] at h
    simp only [ByteArray.mk.injEq, Array.mk.injEq, List.cons.injEq] at h
    exact absurd h.2.2 (by simp)
  · rw [ka_ge h1 hm, ka_lt h2] at h
    simp only [ByteArray.mk.injEq, Array.mk.injEq, List.cons.injEq] at h
    exact absurd h.2.2 (by simp)
  · rw [ka_ge h1 hm, ka_ge h2 hn] at h
    simp only [ByteArray.mk.injEq, Array.mk.injEq, List.cons.injEq, true_and, and_true] at h
    have e1 := u (by omega) (by omega) h.1
    have e2 := u (by omega) (by omega) h.2
    omega
theorem locks3 (s : Sto) (tx : Int) (o : Opr) : (planP 3 s tx o).locks = [⟨#[97]⟩ ++ natS tx.toNat] := by
  simp only [planP, show ¬ (3 : Int) = 1 by decide, show ¬ (3 : Int) = 2 by decide, if_false]
  split <;> rfl
theorem glo_apart {l : List Sto} {tx tx' : Int} {o q : Opr} (h : (gloD l tx o).2 = true) (h' : (gloD l tx' q).2 = true) (hn : tx ≠ tx') (h13 : (l.getD 2 []).length ≤ 38)
    (hd : ∀ p : Int, 1 ≤ p → p ≤ 2 → ∀ k ∈ (planI p (l.getD (p - 1).toNat []) tx o).locks, k ∉ (planI p (l.getD (p - 1).toNat []) tx' q).locks) :
    (gloD (gloD l tx o).1 tx' q).2 = true ∧ (gloD (gloD l tx' q).1 tx o).2 = true ∧ (gloD (gloD l tx o).1 tx' q).1 = (gloD (gloD l tx' q).1 tx o).1 := by
  obtain ⟨hg, ho, ht⟩ := glo_ok h
  obtain ⟨_, hq, ht'⟩ := glo_ok h'
  have I := glo_is hg ho ht
  have J := glo_is hg hq ht'
  have I2 := glo_is I.ok hq ht'
  have J2 := glo_is J.ok ho ht
  have htx : 0 ≤ tx ∧ tx ≤ 29 := by simpa [inR] using ht
  have htx' : 0 ≤ tx' ∧ tx' ≤ 29 := by simpa [inR] using ht'
  have a1 : ∀ p ∈ placesL o, (planP p (l.getD (p - 1).toNat []) tx o).ok = true := List.all_eq_true.1 (I.two ▸ h)
  have b1 : ∀ p ∈ placesL q, (planP p (l.getD (p - 1).toNat []) tx' q).ok = true := List.all_eq_true.1 (J.two ▸ h')
  have toI : ∀ {p : Int} {s : Sto} {t : Int} {r : Opr}, plcB p s = true → inR t 0 29 = true → p ∈ placesL r → planI p s t r = planP p s t r := fun h1 h2 h3 => by
    have := List.any_eq_true.2 ⟨_, h3, (beq_self_eq_true _)⟩
    simp only [planI, h1, h2, this, Bool.and_self, if_true]
  have key : ∀ x : Nat, x < 3 → (x : Int) + 1 ∈ placesL o → (x : Int) + 1 ∈ placesL q → _ := fun x hx m1 m2 => by
    have hp := (glo_iff.1 hg).2 x hx
    have k1 := places_mem (List.any_eq_true.2 ⟨_, m1, (beq_self_eq_true _)⟩)
    have k2 := places_mem (List.any_eq_true.2 ⟨_, m2, (beq_self_eq_true _)⟩)
    have e : ((x : Int) + 1 - 1).toNat = x := by omega
    refine plans_apart hp ho hq htx htx' k1.2.2 k2.2.2 (fun e3 => ?_) (by have := a1 _ m1; rwa [e] at this) (by have := b1 _ m2; rwa [e] at this) ?_
    · have : x = 2 := by omega
      subst this; exact h13
    · by_cases hx2 : x = 2
      · subst hx2
        simp only [show (((2 : Nat) : Int) + 1) = 3 from rfl, locks3]
        intro k hk hk'
        simp only [List.mem_singleton] at hk hk'
        have := ka_inj (by omega) (by omega) (hk.symm.trans hk')
        omega
      · have := hd ((x : Int) + 1) (by omega) (by omega)
        rw [e, toI hp ht m1, toI hp ht' m2] at this
        exact this
  have mem : ∀ {r : Opr} {x : Nat}, ((placesL r).any fun p => p == (x : Int) + 1) = true ↔ (x : Int) + 1 ∈ placesL r := fun {r x} => by
    rw [List.any_eq_true]
    exact ⟨fun ⟨p, h1, h2⟩ => (by simpa using h2 : p = (x : Int) + 1) ▸ h1, fun h => ⟨_, h, by simp⟩⟩
  have gx : ∀ x : Nat, (gloD l tx o).1.getD x [] = if (x : Int) + 1 ∈ placesL o then doS (l.getD x []) (planP ((x : Int) + 1) (l.getD x []) tx o).writes else l.getD x [] := fun x => by
    rw [I.get x]; simp only [h, true_and, mem]
  have gu : ∀ x : Nat, (gloD l tx' q).1.getD x [] = if (x : Int) + 1 ∈ placesL q then doS (l.getD x []) (planP ((x : Int) + 1) (l.getD x []) tx' q).writes else l.getD x [] := fun x => by
    rw [J.get x]; simp only [h', true_and, mem]
  have at_ : ∀ {p : Int} {r : Opr}, p ∈ placesL r → ∃ x : Nat, x < 3 ∧ p = (x : Int) + 1 ∧ (p - 1).toNat = x := fun {p r} hp => by
    have := places_in r p hp
    exact ⟨(p - 1).toNat, by omega, by omega, rfl⟩
  have t2 : (gloD (gloD l tx o).1 tx' q).2 = true := by
    rw [I2.two]
    refine List.all_eq_true.2 fun p hp => ?_
    obtain ⟨x, hx, e, e2⟩ := at_ hp
    have := b1 p hp
    rw [e2] at this ⊢
    subst e
    rw [gx]
    split
    · rename_i hm
      rw [(key x hx hm hp).2.1]; exact this
    · exact this
  have t3 : (gloD (gloD l tx' q).1 tx o).2 = true := by
    rw [J2.two]
    refine List.all_eq_true.2 fun p hp => ?_
    obtain ⟨x, hx, e, e2⟩ := at_ hp
    have := a1 p hp
    rw [e2] at this ⊢
    subst e
    rw [gu]
    split
    · rename_i hm
      rw [(key x hx hp hm).1]; exact this
    · exact this
  refine ⟨t2, t3, ext_getD (d := []) (I2.len.trans J2.len.symm) fun x hx => ?_⟩
  have hx : x < 3 := by rw [I2.len] at hx; exact hx
  rw [I2.get, J2.get]
  simp only [t2, t3, true_and, mem, gx, gu]
  by_cases m1 : (x : Int) + 1 ∈ placesL o <;> by_cases m2 : (x : Int) + 1 ∈ placesL q
  · simp only [m1, m2, if_true]
    obtain ⟨c1, c2, c3⟩ := key x hx m1 m2
    rw [c1, c2]; exact c3.symm
  · simp only [m1, m2, if_true, if_false]
  · simp only [m1, m2, if_true, if_false]
  · simp only [m1, m2, if_true, if_false]
end Go.Proofs.AI

namespace Go.Proofs.AI
open Go.RowKit Go.Proofs
set_option linter.unusedVariables false
set_option linter.unusedSimpArgs false
set_option maxRecDepth 100000
theorem laws_FnGloApart_ok (l : List Int) (m : List Int) (hpre : okU l ∧ okU m) : FunOK Tryz.prog 5 2 [] [(0, k1 (sU l)), (1, k1 (sU m))] (· = [(2, kB true)]) := by
  refine fun_to (E := ⟨tab, ctOf [spec_DrawGloDo_c, impl_GloDo_c, spec_GloDo_c, laws_jaStos_c, laws_jaOk_c, spec_OpOk_c, impl_PlcPlan_c, laws_jaHas_c], 151, [], [(0, [0, 1]), (1, [0, 1, 33]), (2, [4]), (3, [1, 5, 6, 7]), (4, [5, 6, 7, 10]), (5, [5, 6, 7, 10, 11, 12]), (6, [5, 6, 7, 10, 11, 12, 13, 14]), (7, [5, 6, 7, 10, 11, 12, 68]), (8, [4]), (9, [5, 6, 7, 10, 11, 12, 15]), (10, [5, 6, 7, 10, 11, 15, 78]), (11, [4]), (12, [5, 6, 7, 10, 11, 15, 16]), (13, [5, 6, 7, 10, 11, 15, 16, 81]), (14, [5, 6, 7, 10, 11, 15, 16]), (15, [5, 6, 7, 10, 11, 15, 16, 17]), (16, [5, 6, 7, 10, 11, 15, 16, 17, 18]), (17, [5, 6, 7, 10, 11, 15, 16, 17, 18, 19]), (18, [5, 6, 7, 10, 11, 15, 16, 17, 18, 19, 106]), (19, [5, 6, 7, 10, 11, 15, 16, 17, 18, 19]), (20, [5, 6, 7, 10, 11, 15, 16, 17, 18, 19, 116]), (21, [4]), (22, [6, 7, 10, 11, 15, 20, 21]), (23, [6, 7, 10, 11, 15, 20, 126]), (24, [4]), (25, [6, 7, 20, 22, 23]), (26, [22, 23, 24, 25]), (27, [4])], [(0, ⟨Nat, fun x => [(5, ⟨.one, [.c (.ow 35 (typ [] eStoO (drawGlo l).fst))], []⟩), (6, ⟨.one, [.c (.n IntKind.i64 ((drawGlo l).snd.fst))], []⟩), (7, ⟨.box, [.c (.n IntKind.i64 ((drawGlo l).snd.snd.kind)), .c (.n IntKind.i64 ((drawGlo l).snd.snd.who)), .c (.n IntKind.i64 ((drawGlo l).snd.snd.inn)), .c (.n IntKind.i64 ((drawGlo l).snd.snd.code)), .c (.n IntKind.i64 ((drawGlo l).snd.snd.sec)), .c (.n IntKind.i64 ((drawGlo l).snd.snd.fam)), .c (.n IntKind.i64 ((drawGlo l).snd.snd.gen))], []⟩), (10, ⟨.box, [.c (.n IntKind.i64 ((drawGlo m).snd.snd.kind)), .c (.n IntKind.i64 ((drawGlo m).snd.snd.who)), .c (.n IntKind.i64 ((drawGlo m).snd.snd.inn)), .c (.n IntKind.i64 ((drawGlo m).snd.snd.code)), .c (.n IntKind.i64 ((drawGlo m).snd.snd.sec)), .c (.n IntKind.i64 ((drawGlo m).snd.snd.fam)), .c (.n IntKind.i64 ((drawGlo m).snd.snd.gen))], []⟩), (11, ⟨.one, [.c (.ow 35 (typ [] eStoO (gloD (drawGlo l).fst (drawGlo l).snd.fst (drawGlo l).snd.snd).fst))], []⟩), (15, ⟨.one, [.c (.n IntKind.i64 ((IntKind.i64.wrap ((drawGlo l).snd.fst + (1 : Int))).tmod (30 : Int)))], []⟩), (16, ⟨.one, [.c (.n IntKind.i64 (x : Int))], []⟩)]⟩), (2, ⟨Nat × Bool × List ByteArray × List Wrt × Bool × List ByteArray × List Wrt × Nat, fun x => [(5, ⟨.one, [.c (.ow 35 (typ [] eStoO (drawGlo l).fst))], []⟩), (6, ⟨.one, [.c (.n IntKind.i64 ((drawGlo l).snd.fst))], []⟩), (7, ⟨.box, [.c (.n IntKind.i64 ((drawGlo l).snd.snd.kind)), .c (.n IntKind.i64 ((drawGlo l).snd.snd.who)), .c (.n IntKind.i64 ((drawGlo l).snd.snd.inn)), .c (.n IntKind.i64 ((drawGlo l).snd.snd.code)), .c (.n IntKind.i64 ((drawGlo l).snd.snd.sec)), .c (.n IntKind.i64 ((drawGlo l).snd.snd.fam)), .c (.n IntKind.i64 ((drawGlo l).snd.snd.gen))], []⟩), (10, ⟨.box, [.c (.n IntKind.i64 ((drawGlo m).snd.snd.kind)), .c (.n IntKind.i64 ((drawGlo m).snd.snd.who)), .c (.n IntKind.i64 ((drawGlo m).snd.snd.inn)), .c (.n IntKind.i64 ((drawGlo m).snd.snd.code)), .c (.n IntKind.i64 ((drawGlo m).snd.snd.sec)), .c (.n IntKind.i64 ((drawGlo m).snd.snd.fam)), .c (.n IntKind.i64 ((drawGlo m).snd.snd.gen))], []⟩), (11, ⟨.one, [.c (.ow 35 (typ [] eStoO (gloD (drawGlo l).fst (drawGlo l).snd.fst (drawGlo l).snd.snd).fst))], []⟩), (15, ⟨.one, [.c (.n IntKind.i64 ((IntKind.i64.wrap ((drawGlo l).snd.fst + (1 : Int))).tmod (30 : Int)))], []⟩), (16, ⟨.one, [.c (.n IntKind.i64 (x.1 : Int))], []⟩), (17, ⟨.box, [.c (.b (x.2.1)), .c (oS (x.2.2.1)), .c (oWrts (x.2.2.2.1))], []⟩), (18, ⟨.box, [.c (.b (x.2.2.2.2.1)), .c (oS (x.2.2.2.2.2.1)), .c (oWrts (x.2.2.2.2.2.2.1))], []⟩), (19, ⟨.one, [.c (.n IntKind.i64 (x.2.2.2.2.2.2.2 : Int))], []⟩)]⟩)], [(7, [(1000001, [])]), (22, [(1000000, [])]), (25, [(1000000, [])]), (26, [(1000000, [])]), (27, [(1000005, []), (1000006, [])])], [], []⟩) tab_ok mixed Tryz.func5 rfl Tryz.ntmps5 (rvs := [.tmp 4]) Tryz.results5 rfl fun hl => ?_
  refine cast (show ((decide ((↑l.length : Int) > (1048576 : Int)) = false → (decide ((↑m.length : Int) > (1048576 : Int)) = true → true = true) ∧ (decide ((↑m.length : Int) > (1048576 : Int)) = false → ∃ (b : List Int), cnRs (typ (0 : Int) eU l) = cnRs (typ (0 : Int) eU b) ∧ okU b ∧ ∃ (b_1 : List Int), cnRs (typ (0 : Int) eU m) = cnRs (typ (0 : Int) eU b_1) ∧ okU b_1 ∧ ∃ (b_2 : List Sto × Int × Opr), (cnRs (frozenRs (typ [] eStoO (drawGlo b).1)) = cnRs (typ [] eStoS b_2.1) ∧ (drawGlo b).2.1 = b_2.2.1 ∧ (drawGlo b).2.2.kind = b_2.2.2.kind ∧ (drawGlo b).2.2.who = b_2.2.2.who ∧ (drawGlo b).2.2.inn = b_2.2.2.inn ∧ (drawGlo b).2.2.code = b_2.2.2.code ∧ (drawGlo b).2.2.sec = b_2.2.2.sec ∧ (drawGlo b).2.2.fam = b_2.2.2.fam ∧ (drawGlo b).2.2.gen = b_2.2.2.gen) ∧ (((∀ (k : Nat), (∀ (k : Nat), True ∧ (∀ (k : Nat), True ∧ True) ∧ True) ∧ True) ∧ True ∧ True) ∧ True) ∧ ∃ (b_3 : List Sto × Int × Opr), (cnRs (frozenRs (typ [] eStoO (drawGlo b).1)) = cnRs (typ [] eStoS b_3.1) ∧ (drawGlo b).2.1 = b_3.2.1 ∧ (drawGlo b).2.2.kind = b_3.2.2.kind ∧ (drawGlo b).2.2.who = b_3.2.2.who ∧ (drawGlo b).2.2.inn = b_3.2.2.inn ∧ (drawGlo b).2.2.code = b_3.2.2.code ∧ (drawGlo b).2.2.sec = b_3.2.2.sec ∧ (drawGlo b).2.2.fam = b_3.2.2.fam ∧ (drawGlo b).2.2.gen = b_3.2.2.gen) ∧ b_3.1.length ≤ (100 : Nat) ∧ (((∀ (k : Nat), (∀ (k : Nat), True ∧ (∀ (k : Nat), True ∧ True) ∧ True) ∧ True) ∧ True ∧ True) ∧ True) ∧ ∃ (b_4 : List Sto × List Sto), (cnRs (frozenRs (typ [] eStoO (gloD b_2.1 b_2.2.1 b_2.2.2).1)) = cnRs (typ [] eStoS b_4.1) ∧ cnRs (frozenRs (typ [] eStoO (gloD b_3.1 b_3.2.1 b_3.2.2).1)) = cnRs (typ [] eStoS b_4.2)) ∧ ((!decide (b_4.1 = b_4.2)) = false → ((if true = true then !(gloD b_2.1 b_2.2.1 b_2.2.2).2 == (gloD b_3.1 b_3.2.1 b_3.2.2).2 else (gloD b_2.1 b_2.2.1 b_2.2.2).2 == (gloD b_3.1 b_3.2.1 b_3.2.2).2) = true → false = true) ∧ ((if true = true then !(gloD b_2.1 b_2.2.1 b_2.2.2).2 == (gloD b_3.1 b_3.2.1 b_3.2.2).2 else (gloD b_2.1 b_2.2.1 b_2.2.2).2 == (gloD b_3.1 b_3.2.1 b_3.2.2).2) = false → (30 : Int) ≠ (0 : Int) ∧ ((!(gloD b_2.1 b_2.2.1 b_2.2.2).2) = false → ∃ (b_5 : Opr), ((drawGlo b_1).2.2.kind = b_5.kind ∧ (drawGlo b_1).2.2.who = b_5.who ∧ (drawGlo b_1).2.2.inn = b_5.inn ∧ (drawGlo b_1).2.2.code = b_5.code ∧ (drawGlo b_1).2.2.sec = b_5.sec ∧ (drawGlo b_1).2.2.fam = b_5.fam ∧ (drawGlo b_1).2.2.gen = b_5.gen) ∧ ((!opOk b_5) = true → ∃ (b : Unit), True ∧ true = true) ∧ ((!opOk b_5) = false → ∃ (pre : Nat → Prop), ∃ (μ : Nat → Nat), ∃ (x0 : Nat), (cnRs (typ [] eStoO (drawGlo b).1) = cnRs (typ [] eStoO (drawGlo l).1) ∧ (drawGlo b).2.1 = (drawGlo l).2.1 ∧ ((drawGlo b).2.2.kind = (drawGlo l).2.2.kind ∧ (drawGlo b).2.2.who = (drawGlo l).2.2.who ∧ (drawGlo b).2.2.inn = (drawGlo l).2.2.inn ∧ (drawGlo b).2.2.code = (drawGlo l).2.2.code ∧ (drawGlo b).2.2.sec = (drawGlo l).2.2.sec ∧ (drawGlo b).2.2.fam = (drawGlo l).2.2.fam ∧ (drawGlo b).2.2.gen = (drawGlo l).2.2.gen) ∧ ((drawGlo b_1).2.2.kind = (drawGlo m).2.2.kind ∧ (drawGlo b_1).2.2.who = (drawGlo m).2.2.who ∧ (drawGlo b_1).2.2.inn = (drawGlo m).2.2.inn ∧ (drawGlo b_1).2.2.code = (drawGlo m).2.2.code ∧ (drawGlo b_1).2.2.sec = (drawGlo m).2.2.sec ∧ (drawGlo b_1).2.2.fam = (drawGlo m).2.2.fam ∧ (drawGlo b_1).2.2.gen = (drawGlo m).2.2.gen) ∧ cnRs (typ [] eStoO (gloD b_2.1 b_2.2.1 b_2.2.2).1) = cnRs (typ [] eStoO (gloD (drawGlo l).1 (drawGlo l).2.1 (drawGlo l).2.2).1) ∧ (IntKind.i64.wrap ((drawGlo b).2.1 + (1 : Int))).tmod (30 : Int) = (IntKind.i64.wrap ((drawGlo l).2.1 + (1 : Int))).tmod (30 : Int) ∧ (1 : Int) = (↑x0 : Int)) ∧ pre x0 ∧ ∀ (x : Nat), pre x → (decide ((↑x : Int) ≤ (2 : Int)) = true → ((0 : Int) ≤ IntKind.i64.wrap ((↑x : Int) - (1 : Int)) ∧ IntKind.i64.wrap ((↑x : Int) - (1 : Int)) < (↑(drawGlo l).1.length : Int)) ∧ (IntKind.i64.wrap ((↑x : Int) - (1 : Int))).toNat < (drawGlo l).1.length ∧ (IntKind.i64.wrap ((↑x : Int) - (1 : Int))).toNat < (drawGlo l).1.length ∧ ∃ (b : Int × Sto × Int × Opr), ((↑x : Int) = b.1 ∧ cnRs (frozenRs (typ dItem eItemO ((drawGlo l).1.getD (IntKind.i64.wrap ((↑x : Int) - (1 : Int))).toNat []))) = cnRs (typ dItem eItemS b.2.1) ∧ (drawGlo l).2.1 = b.2.2.1 ∧ (drawGlo l).2.2.kind = b.2.2.2.kind ∧ (drawGlo l).2.2.who = b.2.2.2.who ∧ (drawGlo l).2.2.inn = b.2.2.2.inn ∧ (drawGlo l).2.2.code = b.2.2.2.code ∧ (drawGlo l).2.2.sec = b.2.2.2.sec ∧ (drawGlo l).2.2.fam = b.2.2.2.fam ∧ (drawGlo l).2.2.gen = b.2.2.2.gen) ∧ ((True ∧ (∀ (k : Nat), True ∧ True) ∧ (∀ (k : Nat), True ∧ True ∧ (∀ (k : Nat), True ∧ True) ∧ True) ∧ True) ∧ True) ∧ ((0 : Int) ≤ IntKind.i64.wrap ((↑x : Int) - (1 : Int)) ∧ IntKind.i64.wrap ((↑x : Int) - (1 : Int)) < (↑(drawGlo l).1.length : Int)) ∧ (IntKind.i64.wrap ((↑x : Int) - (1 : Int))).toNat < (drawGlo l).1.length ∧ (IntKind.i64.wrap ((↑x : Int) - (1 : Int))).toNat < (drawGlo l).1.length ∧ ∃ (b_6 : Int × Sto × Int × Opr), ((↑x : Int) = b_6.1 ∧ cnRs (frozenRs (typ dItem eItemO ((drawGlo l).1.getD (IntKind.i64.wrap ((↑x : Int) - (1 : Int))).toNat []))) = cnRs (typ dItem eItemS b_6.2.1) ∧ (IntKind.i64.wrap ((drawGlo l).2.1 + (1 : Int))).tmod (30 : Int) = b_6.2.2.1 ∧ (drawGlo m).2.2.kind = b_6.2.2.2.kind ∧ (drawGlo m).2.2.who = b_6.2.2.2.who ∧ (drawGlo m).2.2.inn = b_6.2.2.2.inn ∧ (drawGlo m).2.2.code = b_6.2.2.2.code ∧ (drawGlo m).2.2.sec = b_6.2.2.2.sec ∧ (drawGlo m).2.2.fam = b_6.2.2.2.fam ∧ (drawGlo m).2.2.gen = b_6.2.2.2.gen) ∧ ((True ∧ (∀ (k : Nat), True ∧ True) ∧ (∀ (k : Nat), True ∧ True ∧ (∀ (k : Nat), True ∧ True) ∧ True) ∧ True) ∧ True) ∧ ∃ (pre_1 : Nat × Bool × List ByteArray × List Wrt × Bool × List ByteArray × List Wrt × Nat → Prop), ∃ (μ_1 : Nat × Bool × List ByteArray × List Wrt × Bool × List ByteArray × List Wrt × Nat → Nat), ∃ (x0 : Nat × Bool × List ByteArray × List Wrt × Bool × List ByteArray × List Wrt × Nat), (cnRs (typ [] eStoO (drawGlo l).1) = cnRs (typ [] eStoO (drawGlo l).1) ∧ (drawGlo l).2.1 = (drawGlo l).2.1 ∧ ((drawGlo l).2.2.kind = (drawGlo l).2.2.kind ∧ (drawGlo l).2.2.who = (drawGlo l).2.2.who ∧ (drawGlo l).2.2.inn = (drawGlo l).2.2.inn ∧ (drawGlo l).2.2.code = (drawGlo l).2.2.code ∧ (drawGlo l).2.2.sec = (drawGlo l).2.2.sec ∧ (drawGlo l).2.2.fam = (drawGlo l).2.2.fam ∧ (drawGlo l).2.2.gen = (drawGlo l).2.2.gen) ∧ ((drawGlo m).2.2.kind = (drawGlo m).2.2.kind ∧ (drawGlo m).2.2.who = (drawGlo m).2.2.who ∧ (drawGlo m).2.2.inn = (drawGlo m).2.2.inn ∧ (drawGlo m).2.2.code = (drawGlo m).2.2.code ∧ (drawGlo m).2.2.sec = (drawGlo m).2.2.sec ∧ (drawGlo m).2.2.fam = (drawGlo m).2.2.fam ∧ (drawGlo m).2.2.gen = (drawGlo m).2.2.gen) ∧ cnRs (typ [] eStoO (gloD (drawGlo l).1 (drawGlo l).2.1 (drawGlo l).2.2).1) = cnRs (typ [] eStoO (gloD (drawGlo l).1 (drawGlo l).2.1 (drawGlo l).2.2).1) ∧ (IntKind.i64.wrap ((drawGlo l).2.1 + (1 : Int))).tmod (30 : Int) = (IntKind.i64.wrap ((drawGlo l).2.1 + (1 : Int))).tmod (30 : Int) ∧ (↑x : Int) = (↑x0.1 : Int) ∧ ((planI b.1 b.2.1 b.2.2.1 b.2.2.2).ok = x0.2.1 ∧ cnRs (typ ByteArray.empty eS (planI b.1 b.2.1 b.2.2.1 b.2.2.2).locks) = cnRs (typ ByteArray.empty eS x0.2.2.1) ∧ cnRs (typ dWrt eWrtO (planI b.1 b.2.1 b.2.2.1 b.2.2.2).writes) = cnRs (typ dWrt eWrtO x0.2.2.2.1)) ∧ ((planI b_6.1 b_6.2.1 b_6.2.2.1 b_6.2.2.2).ok = x0.2.2.2.2.1 ∧ cnRs (typ ByteArray.empty eS (planI b_6.1 b_6.2.1 b_6.2.2.1 b_6.2.2.2).locks) = cnRs (typ ByteArray.empty eS x0.2.2.2.2.2.1) ∧ cnRs (typ dWrt eWrtO (planI b_6.1 b_6.2.1 b_6.2.2.1 b_6.2.2.2).writes) = cnRs (typ dWrt eWrtO x0.2.2.2.2.2.2.1)) ∧ (0 : Int) = (↑x0.2.2.2.2.2.2.2 : Int)) ∧ pre_1 x0 ∧ ∀ (x_1 : Nat × Bool × List ByteArray × List Wrt × Bool × List ByteArray × List Wrt × Nat), pre_1 x_1 → (decide ((↑x_1.2.2.2.2.2.2.2 : Int) < (↑x_1.2.2.1.length : Int)) = true → ((0 : Int) ≤ (↑x_1.2.2.2.2.2.2.2 : Int) ∧ (↑x_1.2.2.2.2.2.2.2 : Int) < (↑x_1.2.2.1.length : Int)) ∧ (↑x_1.2.2.2.2.2.2.2 : Int).toNat < x_1.2.2.1.length ∧ ∃ (b : List ByteArray × ByteArray), (cnRs (frozenRs (typ ByteArray.empty eS x_1.2.2.2.2.2.1)) = cnRs (typ ByteArray.empty eS b.1) ∧ x_1.2.2.1.getD (↑x_1.2.2.2.2.2.2.2 : Int).toNat ByteArray.empty = b.2) ∧ ((b.1.any fun (x : ByteArray) => eqB x b.2) = true → ∃ (b : Unit), True ∧ true = true) ∧ ((b.1.any fun (x : ByteArray) => eqB x b.2) = false → ∃ (y : Nat × Bool × List ByteArray × List Wrt × Bool × List ByteArray × List Wrt × Nat), (cnRs (typ [] eStoO (drawGlo l).1) = cnRs (typ [] eStoO (drawGlo l).1) ∧ (drawGlo l).2.1 = (drawGlo l).2.1 ∧ ((drawGlo l).2.2.kind = (drawGlo l).2.2.kind ∧ (drawGlo l).2.2.who = (drawGlo l).2.2.who ∧ (drawGlo l).2.2.inn = (drawGlo l).2.2.inn ∧ (drawGlo l).2.2.code = (drawGlo l).2.2.code ∧ (drawGlo l).2.2.sec = (drawGlo l).2.2.sec ∧ (drawGlo l).2.2.fam = (drawGlo l).2.2.fam ∧ (drawGlo l).2.2.gen = (drawGlo l).2.2.gen) ∧ ((drawGlo m).2.2.kind = (drawGlo m).2.2.kind ∧ (drawGlo m).2.2.who = (drawGlo m).2.2.who ∧ (drawGlo m).2.2.inn = (drawGlo m).2.2.inn ∧ (drawGlo m).2.2.code = (drawGlo m).2.2.code ∧ (drawGlo m).2.2.sec = (drawGlo m).2.2.sec ∧ (drawGlo m).2.2.fam = (drawGlo m).2.2.fam ∧ (drawGlo m).2.2.gen = (drawGlo m).2.2.gen) ∧ cnRs (typ [] eStoO (gloD (drawGlo l).1 (drawGlo l).2.1 (drawGlo l).2.2).1) = cnRs (typ [] eStoO (gloD (drawGlo l).1 (drawGlo l).2.1 (drawGlo l).2.2).1) ∧ (IntKind.i64.wrap ((drawGlo l).2.1 + (1 : Int))).tmod (30 : Int) = (IntKind.i64.wrap ((drawGlo l).2.1 + (1 : Int))).tmod (30 : Int) ∧ (↑x_1.1 : Int) = (↑y.1 : Int) ∧ (x_1.2.1 = y.2.1 ∧ cnRs (typ ByteArray.empty eS x_1.2.2.1) = cnRs (typ ByteArray.empty eS y.2.2.1) ∧ cnRs (typ dWrt eWrtO x_1.2.2.2.1) = cnRs (typ dWrt eWrtO y.2.2.2.1)) ∧ (x_1.2.2.2.2.1 = y.2.2.2.2.1 ∧ cnRs (typ ByteArray.empty eS x_1.2.2.2.2.2.1) = cnRs (typ ByteArray.empty eS y.2.2.2.2.2.1) ∧ cnRs (typ dWrt eWrtO x_1.2.2.2.2.2.2.1) = cnRs (typ dWrt eWrtO y.2.2.2.2.2.2.1)) ∧ IntKind.i64.wrap ((↑x_1.2.2.2.2.2.2.2 : Int) + (1 : Int)) = (↑y.2.2.2.2.2.2.2 : Int)) ∧ pre_1 y ∧ μ_1 y < μ_1 x_1)) ∧ (decide ((↑x_1.2.2.2.2.2.2.2 : Int) < (↑x_1.2.2.1.length : Int)) = false → ∃ (y : Nat), (cnRs (typ [] eStoO (drawGlo l).1) = cnRs (typ [] eStoO (drawGlo l).1) ∧ (drawGlo l).2.1 = (drawGlo l).2.1 ∧ ((drawGlo l).2.2.kind = (drawGlo l).2.2.kind ∧ (drawGlo l).2.2.who = (drawGlo l).2.2.who ∧ (drawGlo l).2.2.inn = (drawGlo l).2.2.inn ∧ (drawGlo l).2.2.code = (drawGlo l).2.2.code ∧ (drawGlo l).2.2.sec = (drawGlo l).2.2.sec ∧ (drawGlo l).2.2.fam = (drawGlo l).2.2.fam ∧ (drawGlo l).2.2.gen = (drawGlo l).2.2.gen) ∧ ((drawGlo m).2.2.kind = (drawGlo m).2.2.kind ∧ (drawGlo m).2.2.who = (drawGlo m).2.2.who ∧ (drawGlo m).2.2.inn = (drawGlo m).2.2.inn ∧ (drawGlo m).2.2.code = (drawGlo m).2.2.code ∧ (drawGlo m).2.2.sec = (drawGlo m).2.2.sec ∧ (drawGlo m).2.2.fam = (drawGlo m).2.2.fam ∧ (drawGlo m).2.2.gen = (drawGlo m).2.2.gen) ∧ cnRs (typ [] eStoO (gloD (drawGlo l).1 (drawGlo l).2.1 (drawGlo l).2.2).1) = cnRs (typ [] eStoO (gloD (drawGlo l).1 (drawGlo l).2.1 (drawGlo l).2.2).1) ∧ (IntKind.i64.wrap ((drawGlo l).2.1 + (1 : Int))).tmod (30 : Int) = (IntKind.i64.wrap ((drawGlo l).2.1 + (1 : Int))).tmod (30 : Int) ∧ IntKind.i64.wrap ((↑x_1.1 : Int) + (1 : Int)) = (↑y : Int)) ∧ pre y ∧ μ y < μ x)) ∧ (decide ((↑x : Int) ≤ (2 : Int)) = false → ∃ (b : List Sto × Int × Opr), (cnRs (frozenRs (typ [] eStoO (drawGlo l).1)) = cnRs (typ [] eStoS b.1) ∧ (IntKind.i64.wrap ((drawGlo l).2.1 + (1 : Int))).tmod (30 : Int) = b.2.1 ∧ (drawGlo m).2.2.kind = b.2.2.kind ∧ (drawGlo m).2.2.who = b.2.2.who ∧ (drawGlo m).2.2.inn = b.2.2.inn ∧ (drawGlo m).2.2.code = b.2.2.code ∧ (drawGlo m).2.2.sec = b.2.2.sec ∧ (drawGlo m).2.2.fam = b.2.2.fam ∧ (drawGlo m).2.2.gen = b.2.2.gen) ∧ (((∀ (k : Nat), (∀ (k : Nat), True ∧ (∀ (k : Nat), True ∧ True) ∧ True) ∧ True) ∧ True ∧ True) ∧ True) ∧ ((!(gloD b.1 b.2.1 b.2.2).2) = true → ∃ (b : Unit), True ∧ true = true) ∧ ((!(gloD b.1 b.2.1 b.2.2).2) = false → ∃ (b_6 : List Sto × Int × Opr), (cnRs (frozenRs (typ [] eStoO (gloD (drawGlo l).1 (drawGlo l).2.1 (drawGlo l).2.2).1)) = cnRs (typ [] eStoS b_6.1) ∧ (IntKind.i64.wrap ((drawGlo l).2.1 + (1 : Int))).tmod (30 : Int) = b_6.2.1 ∧ (drawGlo m).2.2.kind = b_6.2.2.kind ∧ (drawGlo m).2.2.who = b_6.2.2.who ∧ (drawGlo m).2.2.inn = b_6.2.2.inn ∧ (drawGlo m).2.2.code = b_6.2.2.code ∧ (drawGlo m).2.2.sec = b_6.2.2.sec ∧ (drawGlo m).2.2.fam = b_6.2.2.fam ∧ (drawGlo m).2.2.gen = b_6.2.2.gen) ∧ (((∀ (k : Nat), (∀ (k : Nat), True ∧ (∀ (k : Nat), True ∧ True) ∧ True) ∧ True) ∧ True ∧ True) ∧ True) ∧ ∃ (b_7 : List Sto × Int × Opr), (cnRs (frozenRs (typ [] eStoO (gloD b.1 b.2.1 b.2.2).1)) = cnRs (typ [] eStoS b_7.1) ∧ (drawGlo l).2.1 = b_7.2.1 ∧ (drawGlo l).2.2.kind = b_7.2.2.kind ∧ (drawGlo l).2.2.who = b_7.2.2.who ∧ (drawGlo l).2.2.inn = b_7.2.2.inn ∧ (drawGlo l).2.2.code = b_7.2.2.code ∧ (drawGlo l).2.2.sec = b_7.2.2.sec ∧ (drawGlo l).2.2.fam = b_7.2.2.fam ∧ (drawGlo l).2.2.gen = b_7.2.2.gen) ∧ (((∀ (k : Nat), (∀ (k : Nat), True ∧ (∀ (k : Nat), True ∧ True) ∧ True) ∧ True) ∧ True ∧ True) ∧ True) ∧ ((gloD b_6.1 b_6.2.1 b_6.2.2).2 = true → ((gloD b_7.1 b_7.2.1 b_7.2.2).2 = true → ∃ (b : List Sto × List Sto), (cnRs (frozenRs (typ [] eStoO (gloD b_6.1 b_6.2.1 b_6.2.2).1)) = cnRs (typ [] eStoS b.1) ∧ cnRs (frozenRs (typ [] eStoO (gloD b_7.1 b_7.2.1 b_7.2.2).1)) = cnRs (typ [] eStoS b.2)) ∧ decide (b.1 = b.2) = true) ∧ ((gloD b_7.1 b_7.2.1 b_7.2.2).2 = false → false = true)) ∧ ((gloD b_6.1 b_6.2.1 b_6.2.2).2 = false → false = true))))) ∧ ((!(gloD b_2.1 b_2.2.1 b_2.2.2).2) = true → ∃ (b : Unit), True ∧ true = true))) ∧ ((!decide (b_4.1 = b_4.2)) = true → false = true))) ∧ (decide ((↑l.length : Int) > (1048576 : Int)) = true → true = true)) = _ by kernel_rfl) ?_
  simp only [cU, eU_iff, Prod.exists, Int.natCast_inj, and_assoc, exists_eq_left', exists_and_left, true_and, and_true, implies_true, and_self, bne_iff_ne, beq_iff_eq, beq_eq_false_iff_ne, ne_eq, forall_eq, Prod.forall, fi_eI, fi_eS, cI, nI_iff, cI_app, cItemO, cItemS, nItemO_iff, nItemS_iff, cWrtO, cWrtS, nWrtO_iff, nWrtS_iff, cStoO, cStoS, nStoO_iff, nStoS_iff, fItemO, fItemS, fWrtO, fWrtS, fStoO, fStoS, fI, frz_app, cWrtO_app, cWrtS_app, cWrtO_1, cItemO_1, opr_ex, zcast, cnRs_raw, cnRs_nil, frz_nil, nil_map, List.map_nil, Int.toNat_natCast, Bool.not_eq_true, Bool.not_eq_false, decide_eq_true_eq, decide_eq_false_iff_not, gt_iff_lt, fS, cS_eq, Option.getD_none, Option.getD_some]
  obtain ⟨hu, hu'⟩ := hpre
  have hlen := draw_len hu
  have h13 := draw_three hu
  generalize (drawGlo l).1 = L at *
  generalize (drawGlo l).2.1 = tx at *
  generalize (drawGlo l).2.2 = o at *
  generalize (drawGlo m).2.2 = q at *
  generalize hq : (IntKind.i64.wrap (tx + 1)).tmod 30 = t'
  refine fun hs hs' => ⟨hu, hu', by omega, fun _ => ⟨fun h => ?_, fun _ => ⟨by decide, fun h1 => ⟨fun _ => ⟨(), trivial⟩, fun h2 => ?_⟩, fun _ => ⟨(), trivial⟩⟩⟩, fun h => ?_⟩
  · simp at h
  rotate_left
  · simp at h
  have g2 : (gloD L tx o).2 = true := by simpa using h1
  clear h1
  obtain ⟨hg, ho, ht⟩ := glo_ok g2
  have htx : 0 ≤ tx ∧ tx ≤ 29 := by simpa [inR] using ht
  rw [IntWalk.i64_in (tx + 1) (by omega), Int.tmod_eq_emod_of_nonneg (by omega)] at hq
  have hlk : ∀ (x : Nat), x < 3 → (planI ((x : Int) + 1) (L.getD x []) tx o).locks.length ≤ 100 := fun x hx => by
    have hl := plan_len ((x : Int) + 1) (L.getD x []) tx o
    have := (stoB_small (plc_sto ((glo_iff.1 hg).2 x hx))).1
    simp only [planI]
    split
    · omega
    · simp
  refine ⟨fun x => 1 ≤ x ∧ x ≤ 3 ∧ ∀ j : Nat, 1 ≤ j → j < x → ∀ k ∈ (planI (j : Int) (L.getD (j - 1) []) tx o).locks, k ∉ (planI (j : Int) (L.getD (j - 1) []) t' q).locks, fun x => 3 - x, 1, rfl, ⟨by omega, by omega, fun j h1 h2 => absurd h2 (by omega)⟩, fun x hx => ?_⟩
  obtain ⟨hx1, hx3, hx⟩ := hx
  refine ⟨fun hle => ?_, fun hgt => ?_⟩
  · have e : IntKind.i64.wrap ((x : Int) - 1) = ((x - 1 : Nat) : Int) := by rw [IntWalk.i64_in _ (by omega)]; omega
    have hlx := hlk (x - 1) (by omega)
    rw [show (((x - 1 : Nat) : Int) + 1) = (x : Int) by omega] at hlx
    simp only [e, Int.toNat_natCast]
    generalize hA : planI (x : Int) (L.getD (x - 1) []) tx o = A at *
    generalize hB : planI (x : Int) (L.getD (x - 1) []) t' q = B at *
    refine ⟨by omega, by omega, by omega, by omega, by omega, by omega, by omega, by omega, fun y => y.1 = x ∧ y.2.2.1 = A.locks ∧ y.2.2.2.2.2.1 = B.locks ∧ y.2.2.2.2.2.2.2 ≤ A.locks.length ∧ ∀ j, j < y.2.2.2.2.2.2.2 → A.locks.getD j ByteArray.empty ∉ B.locks, ⟨rfl, rfl, rfl, Nat.zero_le _, fun j hj => absurd hj (Nat.not_lt_zero _)⟩, fun y => A.locks.length - y.2.2.2.2.2.2.2, fun b1 b2 b3 b4 b5 b6 b7 i hy => ?_⟩
    simp only at hy
    obtain ⟨rfl, rfl, rfl, hi, hj⟩ := hy
    refine ⟨fun hlt => ?_, fun hge => ?_⟩
    · refine ⟨by omega, hlt, by omega, fun _ => ⟨(), trivial⟩, fun hh => ⟨i + 1, wrapN (by omega), ⟨rfl, rfl, rfl, by simp only; omega, below_succ hj (any_eqB'.1 hh)⟩, by simp only; omega⟩⟩
    · refine ⟨b1 + 1, wrapN (by omega), ⟨by omega, by omega, fun j h1 h2 => ?_⟩, by omega⟩
      by_cases ej : j = b1
      · subst ej
        rw [hA, hB]
        intro k hk
        obtain ⟨n, hn, rfl⟩ := List.getElem_of_mem hk
        have := hj n (by omega)
        rwa [getD_lt hn] at this
      · exact hx j h1 (by omega)
  · have hx3 : x = 3 := by omega
    subst hx3
    refine ⟨fun _ => ⟨(), trivial⟩, fun h => ?_⟩
    have g2' : (gloD L t' q).2 = true := by simpa using h
    obtain ⟨c1, c2, c3⟩ := glo_apart g2 g2' (by omega) (by have := h13 (plc_sto ((glo_iff.1 hg).2 2 (by decide))); omega) (fun p p1 p2 => by
      have := hx p.toNat (by omega) (by omega)
      rw [show ((p.toNat : Nat) : Int) = p by omega, show p.toNat - 1 = (p - 1).toNat by omega] at this
      exact this)
    exact ⟨fun _ => ⟨fun _ => c3, fun e => absurd (c2.symm.trans e) (by simp)⟩, fun e => absurd (c1.symm.trans e) (by simp)⟩
def laws_FnGloApart_c : Con Tryz.prog := ⟨5, 2, [.lend, .lend], [], List Int × List Int, some fun b => okU b.1 ∧ okU b.2, fun b => [(0, k1 (sU b.1)), (1, k1 (sU b.2))], fun b => [(2, kB true)], [], fun b h => laws_FnGloApart_ok (b.1) (b.2) h⟩
end Go.Proofs.AI
