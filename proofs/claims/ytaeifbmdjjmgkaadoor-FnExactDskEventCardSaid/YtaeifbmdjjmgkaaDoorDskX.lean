/- The reference's DskText writes what the manners say. Conditions: none. -/
import Derived.Test.YtaeifbmdjjmgkaaDoorDskW
namespace Go.Proofs.YtaeifbmdjjmgkaaDoor
open Go.RowKit Go.Proofs.YtaeifbmdjjmgkaaDoorW.PrintWords
set_option linter.unusedVariables false
set_option linter.unusedSimpArgs false
set_option maxRecDepth 100000

theorem sp_after {a b : ByteArray} (x : ByteArray) (h : a ++ sp = b) : a ++ (sp ++ x) = b ++ x := by rw [← ByteArray.append_assoc, h]

theorem text_do (e : Ev) (hk : e.kind = 1) (ho : OpOk e.op) : dskText e = joinN (opWord e.op) (opNums e.op) := by
  have hv : evOkB e = true := by unfold evOkB; rw [if_pos hk]; exact dec_true ho
  have hform := ho.2.2.2.2.2.2
  unfold OpForm at hform
  obtain ⟨kind, ⟨ok, o1, o2, o3, o4, o5, o6⟩, e1, e2, e3⟩ := e
  simp only at hk hform
  subst hk
  unfold dskText
  rw [if_pos hv]
  have hc : ok = 1 ∨ ok = 2 ∨ ok = 3 ∨ ok = 4 ∨ ok = 5 := by omega
  rcases hc with rfl | rfl | rfl | rfl | rfl <;> simp [idxOf, matB, manners, List.findIdx?_cons, textOf, ix, opWord, opNums, Ev.fld, Ev.nums]
theorem text_notdo (e : Ev) (hk : e.kind = 1) (ho : opOkB e.op = false) : dskText e = ⟨#[]⟩ := by
  unfold dskText evOkB
  rw [if_pos hk, ho, if_neg (by decide)]
theorem text_none (e : Ev) (hk : e.kind ≠ 1) (hr : ¬ (InB e.kind 2 7 ∧ InB e.at_ 0 999 ∧ InB e.place 0 3 ∧ InB e.keep 0 999)) : dskText e = ⟨#[]⟩ := by
  unfold dskText evOkB
  rw [if_neg hk]
  split
  · rename_i h
    have h1 := dec_iff.1 h
    have hk2 : ¬ InB e.kind 2 7 := fun h2 => hr ⟨h2, h1.1, h1.2.2, h1.2.1⟩
    have hi : idxOf (matB e) manners = -1 := by
      obtain ⟨kind, ⟨ok, o1, o2, o3, o4, o5, o6⟩, e1, e2, e3⟩ := e
      unfold InB at hk2
      simp only at hk hk2
      have a2 : ¬ 2 = kind := by omega
      have a1 : ¬ 1 = kind := by omega
      have a3 : ¬ 3 = kind := by omega
      have a4 : ¬ 4 = kind := by omega
      have a5 : ¬ 5 = kind := by omega
      have a6 : ¬ 6 = kind := by omega
      have a7 : ¬ 7 = kind := by omega
      simp [idxOf, matB, manners, List.findIdx?_cons, a1, a2, a3, a4, a5, a6, a7]
    rw [hi]
    rfl
  · rfl
theorem evOk_at {e : Ev} (hk : e.kind ≠ 1) (h1 : InB e.at_ 0 999) (h2 : InB e.place 0 3) (h3 : InB e.keep 0 999) : evOkB e = true := by
  unfold evOkB
  rw [if_neg hk]
  exact dec_true ⟨h1, h3, h2⟩
theorem text_tick (e : Ev) (hk : e.kind = 5) (h1 : InB e.at_ 0 999) (h2 : InB e.place 0 3) (h3 : InB e.keep 0 999) : dskText e = ⟨#[116, 105, 99, 107, 32]⟩ ++ itoaB e.place := by
  unfold dskText
  rw [if_pos (evOk_at (by omega) h1 h2 h3)]
  have hi : idxOf (matB e) manners = ((9 : Nat) : Int) := by simp [idxOf, matB, manners, List.findIdx?_cons, hk]
  rw [hi]
  exact sp_after _ rfl
theorem text_fall (e : Ev) (hk : e.kind = 7) (h1 : InB e.at_ 0 999) (h2 : InB e.place 0 3) (h3 : InB e.keep 0 999) : dskText e = ⟨#[102, 97, 108, 108, 32]⟩ ++ itoaB e.place ++ ⟨#[32]⟩ ++ itoaB e.keep := by
  unfold dskText
  rw [if_pos (evOk_at (by omega) h1 h2 h3)]
  have hi : idxOf (matB e) manners = ((10 : Nat) : Int) := by simp [idxOf, matB, manners, List.findIdx?_cons, hk]
  rw [hi]
  show (⟨#[102, 97, 108, 108]⟩ ++ (sp ++ itoaB e.place)) ++ (sp ++ itoaB e.keep) = _
  rw [sp_after (a := ⟨#[102, 97, 108, 108]⟩) (b := ⟨#[102, 97, 108, 108, 32]⟩) (itoaB e.place) rfl, ← ByteArray.append_assoc]
  rfl
theorem text_hear (e : Ev) (hk : e.kind = 2) (h1 : InB e.at_ 0 999) (h2 : InB e.place 0 3) (h3 : InB e.keep 0 999) : dskText e = ⟨#[104, 101, 97, 114, 32]⟩ ++ itoaB e.at_ := by
  unfold dskText
  rw [if_pos (evOk_at (by omega) h1 h2 h3)]
  have hi : idxOf (matB e) manners = ((5 : Nat) : Int) := by simp [idxOf, matB, manners, List.findIdx?_cons, hk]
  rw [hi]
  exact sp_after _ rfl
theorem text_lose (e : Ev) (hk : e.kind = 3) (h1 : InB e.at_ 0 999) (h2 : InB e.place 0 3) (h3 : InB e.keep 0 999) : dskText e = ⟨#[108, 111, 115, 101, 32]⟩ ++ itoaB e.at_ := by
  unfold dskText
  rw [if_pos (evOk_at (by omega) h1 h2 h3)]
  have hi : idxOf (matB e) manners = ((6 : Nat) : Int) := by simp [idxOf, matB, manners, List.findIdx?_cons, hk]
  rw [hi]
  exact sp_after _ rfl
theorem text_twice (e : Ev) (hk : e.kind = 4) (h1 : InB e.at_ 0 999) (h2 : InB e.place 0 3) (h3 : InB e.keep 0 999) : dskText e = ⟨#[116, 119, 105, 99, 101, 32]⟩ ++ itoaB e.at_ := by
  unfold dskText
  rw [if_pos (evOk_at (by omega) h1 h2 h3)]
  have hi : idxOf (matB e) manners = ((7 : Nat) : Int) := by simp [idxOf, matB, manners, List.findIdx?_cons, hk]
  rw [hi]
  exact sp_after _ rfl
theorem text_give (e : Ev) (hk : e.kind = 6) (h1 : InB e.at_ 0 999) (h2 : InB e.place 0 3) (h3 : InB e.keep 0 999) : dskText e = ⟨#[103, 105, 118, 101, 32]⟩ ++ itoaB e.at_ := by
  unfold dskText
  rw [if_pos (evOk_at (by omega) h1 h2 h3)]
  have hi : idxOf (matB e) manners = ((8 : Nat) : Int) := by simp [idxOf, matB, manners, List.findIdx?_cons, hk]
  rw [hi]
  exact sp_after _ rfl

theorem sDskText_any (e : Ev) (w : World) :
    Calls Tryd.prog 5 #[e.val] w fun e' w' => e' = .returned (.string (dskText e)) ∧ Below w.heap.size w w' := by
  by_cases hk : e.kind = 1
  · cases ho : opOkB e.op with
    | true => rw [text_do e hk (dec_iff.1 ho)]; exact sDskText_do e hk ho w
    | false => rw [text_notdo e hk ho]; exact sDskText_notdo e hk ho w
  · by_cases hr : InB e.kind 2 7 ∧ InB e.at_ 0 999 ∧ InB e.place 0 3 ∧ InB e.keep 0 999
    · obtain ⟨h0, h1, h2, h3⟩ := hr
      have hc : e.kind = 2 ∨ e.kind = 3 ∨ e.kind = 4 ∨ e.kind = 5 ∨ e.kind = 6 ∨ e.kind = 7 := by unfold InB at h0; omega
      rcases hc with hc | hc | hc | hc | hc | hc
      · rw [text_hear e hc h1 h2 h3]; exact sDskText_hear e hc h0 h1 h2 h3 w
      · rw [text_lose e hc h1 h2 h3]; exact sDskText_lose e hc h0 h1 h2 h3 w
      · rw [text_twice e hc h1 h2 h3]; exact sDskText_twice e hc h0 h1 h2 h3 w
      · rw [text_tick e hc h1 h2 h3]; exact sDskText_tick e hc h0 h1 h2 h3 w
      · rw [text_give e hc h1 h2 h3]; exact sDskText_give e hc h0 h1 h2 h3 w
      · rw [text_fall e hc h1 h2 h3]; exact sDskText_fall e hc h0 h1 h2 h3 w
    · rw [text_none e hk hr]; exact sDskText_none e hk hr w
end Go.Proofs.YtaeifbmdjjmgkaaDoor
