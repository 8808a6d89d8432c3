/- What the program knows of all lines, in memory. Conditions: none. -/
import Derived.Test.YtaeifbmdjjmgkaaDoorDskC
import Derived.Test.YtaeifbmdjjmgkaaDoorWLast
import Derived.Test.YtaeifbmdjjmgkaaDoorWTab
import Derived.Test.YtaeifbmdjjmgkaaDoorWInv
import Derived.Test.YtaeifbmdjjmgkaaDoorWInvWords
import Derived.Test.YtaeifbmdjjmgkaaDoorWRepsOne
namespace Go.Proofs.YtaeifbmdjjmgkaaDoor
open Go.RowKit Go.Proofs.YtaeifbmdjjmgkaaDoorW.PrintWords Go.Proofs.YtaeifbmdjjmgkaaDoorW.PrintLast
set_option linter.unusedVariables false
set_option linter.unusedSimpArgs false
set_option maxRecDepth 100000

def manners.T2 : Bool × List (List Nat × List Nat) := (true, [([], []), ([0], [0]), ([1], [1]), ([], []), ([3], [3]), ([4], [4]), ([2, 5], [2, 5]), ([6], [6]), ([], []), ([8], [8]), ([9], [9]), ([], []), ([11], [11]), ([12], [12]), ([], []), ([14], [14]), ([15], [15]), ([], []), ([17], [17]), ([18], [18]), ([10, 13, 16, 19], [10, 13, 16, 19]), ([20], [20]), ([], []), ([22], [22]), ([23], [23]), ([], []), ([25], [25]), ([26], [26]), ([], []), ([28], [28]), ([29], [29]), ([24, 27, 30], [24, 27, 30]), ([31], [31]), ([], []), ([33], [33]), ([34], [34]), ([], []), ([36], [36]), ([37], [37]), ([35, 38], [35, 38]), ([39], [39]), ([], []), ([41], [41]), ([42], [42]), ([], []), ([44], [44]), ([45], [45]), ([43, 46], [43, 46]), ([47], [47]), ([], []), ([49], [49]), ([50], [50]), ([51], [51]), ([52], [52]), ([], []), ([54], [54]), ([55], [55]), ([56], [56]), ([57], [57]), ([], []), ([59], [59]), ([60], [60]), ([61], [61]), ([62], [62]), ([], []), ([64], [64]), ([65], [65]), ([66], [66]), ([67], [67]), ([], []), ([69], [69]), ([70], [70]), ([71], [71]), ([72], [72]), ([], []), ([74], [74]), ([75], [75]), ([], []), ([77], [77]), ([78], [78]), ([76, 79], [76, 79]), ([80], [80]), ([7, 21, 32, 40, 48, 53, 58, 63, 68, 73, 81], [7, 21, 32, 40, 48, 53, 58, 63, 68, 73, 81]), ([82, 0, 1, 2, 3, 4, 5, 6, 7, 8, 9, 10, 11, 12, 13, 14, 15, 16, 17, 18, 19, 20, 21, 22, 23, 24, 25, 26, 27, 28, 29, 30, 31, 32, 33, 34, 35, 36, 37, 38, 39, 40, 41, 42, 43, 44, 45, 46, 47, 48, 49, 50, 51, 52, 53, 54, 55, 56, 57, 58, 59, 60, 61, 62, 63, 64, 65, 66, 67, 68, 69, 70, 71, 72, 73, 74, 75, 76, 77, 78, 79, 80, 81, 82], [82])])
def manners.B2 : List Nat := [0, 1, 3, 0, 8, 24, 63, 127, 0, 256, 768, 0, 2048, 6144, 0, 16384, 49152, 0, 131072, 393216, 1048320, 2096896, 0, 4194304, 12582912, 0, 33554432, 100663296, 0, 268435456, 805306368, 2143289344, 4290772992, 0, 8589934592, 25769803776, 0, 68719476736, 206158430208, 541165879296, 1090921693184, 0, 2199023255552, 6597069766656, 0, 17592186044416, 52776558133248, 138538465099776, 279275953455104, 0, 562949953421312, 1688849860263936, 3940649673949184, 8444249301319680, 0, 18014398509481984, 54043195528445952, 126100789566373888, 270215977642229760, 0, 576460752303423488, 1729382256910270464, 4035225266123964416, 8646911284551352320, 0, 18446744073709551616, 55340232221128654848, 129127208515966861312, 276701161105643274240, 0, 590295810358705651712, 1770887431076116955136, 4132070672510939561984, 8854437155380584775680, 0, 18889465931478580854784, 56668397794435742564352, 0, 151115727451828646838272, 453347182355485940514816, 1190036353683150593851392, 2398962173297779768557568, 4835703278458516698824703, 9671406556917033397649407]
theorem manners.tab2 : rtab .any (opsOf Tryd.f18 2) = manners.T2 := by kernel_rfl
theorem manners.bits2 : waitsOk manners.T2.2 manners.B2 = true := by kernel_rfl

set_option maxHeartbeats 8000000 in
theorem manners_any (B : Nat) (w : World) :
    Calls Tryd.prog 18 #[.pointer (some ⟨B, 0, none⟩)] w fun e w' => ∃ v, e = .returned v ∧ (kMan B).R 50 w' w.heap.size (fun _ => True) v manners ∧ Below w.heap.size w w' := by
  go_enter Tryd.func18, Tryd.ntmps18
  go_wp2
  refine start_ (n := 84) (S := fun w' => True) (ds := []) #[false, false, false, false, false, false, false, false, false, false, false, false, false, false, false, false, false, false, false, false, false, false, false, false, false, false, false, false, false, false, false, false, false, false, false, false, false, false, false, false, false, false, false, false, false, false, false, false, false, false, false, false, false, false, false, false, false, false, false, false, false, false, false, false, false, false, false, false, false, false, false, false, false, false, false, false, false, false, false, false, false, false, false, false] (by kernel_rfl) rfl rfl trivial (fun hHeld => ?_)
  refine with_tabW manners.tab2 manners.bits2 (fun HT_ HW_ => ?_)
  generalize hw1_ : w.drew = w1_ at hHeld ⊢
  have HB := Aside0.mk (show Below w.heap.size w w1_ from hw1_ ▸ pw_below_drewN (Below.refl _ _) 1)
  clear hw1_
  refine pure_ (i := 0) (N := some 7) (v := ?_) (a' := ?_) #[true, false, false, false, false, false, false, false, false, false, false, false, false, false, false, false, false, false, false, false, false, false, false, false, false, false, false, false, false, false, false, false, false, false, false, false, false, false, false, false, false, false, false, false, false, false, false, false, false, false, false, false, false, false, false, false, false, false, false, false, false, false, false, false, false, false, false, false, false, false, false, false, false, false, false, false, false, false, false, false, false, false, false, false] rfl rfl (any_of HT_.out (by kernel_rfl)) (fun _ _ _ h => h) (Or.inl ⟨by rfl, ?_⟩) ?_ ?_
  rotate_left
  · intro w'
    go_simp
    with_reducible rfl
  rotate_left
  · simp only [Act.put, List.setIfInBounds_toArray, List.set_cons_zero, List.set_cons_succ, i64_w, i32_w]
    rfl
  refine pure_ (i := 1) (N := some 8) (v := ?_) (a' := ?_) #[true, true, false, false, false, false, false, false, false, false, false, false, false, false, false, false, false, false, false, false, false, false, false, false, false, false, false, false, false, false, false, false, false, false, false, false, false, false, false, false, false, false, false, false, false, false, false, false, false, false, false, false, false, false, false, false, false, false, false, false, false, false, false, false, false, false, false, false, false, false, false, false, false, false, false, false, false, false, false, false, false, false, false, false] rfl rfl (any_of HT_.out (by kernel_rfl)) (fun _ _ _ h => h) (Or.inl ⟨by rfl, ?_⟩) ?_ ?_
  rotate_left
  · intro w'
    go_simp
    with_reducible rfl
  rotate_left
  · simp only [Act.put, List.setIfInBounds_toArray, List.set_cons_zero, List.set_cons_succ, i64_w, i32_w]
    rfl
  refine pure_ (i := 2) (N := some 9) (v := ?_) (a' := ?_) #[true, true, true, false, false, false, false, false, false, false, false, false, false, false, false, false, false, false, false, false, false, false, false, false, false, false, false, false, false, false, false, false, false, false, false, false, false, false, false, false, false, false, false, false, false, false, false, false, false, false, false, false, false, false, false, false, false, false, false, false, false, false, false, false, false, false, false, false, false, false, false, false, false, false, false, false, false, false, false, false, false, false, false, false] rfl rfl (any_of HT_.out (by kernel_rfl)) (fun _ _ _ h => h) (Or.inl ⟨by rfl, ?_⟩) ?_ ?_
  rotate_left
  · intro w'
    go_simp
    with_reducible rfl
  rotate_left
  · simp only [Act.put, List.setIfInBounds_toArray, List.set_cons_zero, List.set_cons_succ, i64_w, i32_w]
    rfl
  refine pure_ (i := 3) (N := some 10) (v := ?_) (a' := ?_) #[true, true, true, true, false, false, false, false, false, false, false, false, false, false, false, false, false, false, false, false, false, false, false, false, false, false, false, false, false, false, false, false, false, false, false, false, false, false, false, false, false, false, false, false, false, false, false, false, false, false, false, false, false, false, false, false, false, false, false, false, false, false, false, false, false, false, false, false, false, false, false, false, false, false, false, false, false, false, false, false, false, false, false, false] rfl rfl (any_of HT_.out (by kernel_rfl)) (fun _ _ _ h => h) (Or.inl ⟨by rfl, ?_⟩) ?_ ?_
  rotate_left
  · intro w'
    go_simp
    with_reducible rfl
  rotate_left
  · simp only [Act.put, List.setIfInBounds_toArray, List.set_cons_zero, List.set_cons_succ, i64_w, i32_w]
    rfl
  refine pure_ (i := 4) (N := some 11) (v := ?_) (a' := ?_) #[true, true, true, true, true, false, false, false, false, false, false, false, false, false, false, false, false, false, false, false, false, false, false, false, false, false, false, false, false, false, false, false, false, false, false, false, false, false, false, false, false, false, false, false, false, false, false, false, false, false, false, false, false, false, false, false, false, false, false, false, false, false, false, false, false, false, false, false, false, false, false, false, false, false, false, false, false, false, false, false, false, false, false, false] rfl rfl (any_of HT_.out (by kernel_rfl)) (fun _ _ _ h => h) (Or.inl ⟨by rfl, ?_⟩) ?_ ?_
  rotate_left
  · intro w'
    go_simp
    with_reducible rfl
  rotate_left
  · simp only [Act.put, List.setIfInBounds_toArray, List.set_cons_zero, List.set_cons_succ, i64_w, i32_w]
    rfl
  refine pure_ (i := 5) (N := some 12) (v := ?_) (a' := ?_) #[true, true, true, true, true, true, false, false, false, false, false, false, false, false, false, false, false, false, false, false, false, false, false, false, false, false, false, false, false, false, false, false, false, false, false, false, false, false, false, false, false, false, false, false, false, false, false, false, false, false, false, false, false, false, false, false, false, false, false, false, false, false, false, false, false, false, false, false, false, false, false, false, false, false, false, false, false, false, false, false, false, false, false, false] rfl rfl (any_of HT_.out (by kernel_rfl)) (fun _ _ _ h => h) (Or.inl ⟨by rfl, ?_⟩) ?_ ?_
  rotate_left
  · intro w'
    go_simp
    with_reducible rfl
  rotate_left
  · simp only [Act.put, List.setIfInBounds_toArray, List.set_cons_zero, List.set_cons_succ, i64_w, i32_w]
    rfl
  refine pure_ (i := 8) (N := some 15) (v := ?_) (a' := ?_) #[true, true, true, true, true, true, false, false, true, false, false, false, false, false, false, false, false, false, false, false, false, false, false, false, false, false, false, false, false, false, false, false, false, false, false, false, false, false, false, false, false, false, false, false, false, false, false, false, false, false, false, false, false, false, false, false, false, false, false, false, false, false, false, false, false, false, false, false, false, false, false, false, false, false, false, false, false, false, false, false, false, false, false, false] rfl rfl (any_of HT_.out (by kernel_rfl)) (fun _ _ _ h => h) (Or.inl ⟨by rfl, ?_⟩) ?_ ?_
  rotate_left
  · intro w'
    go_simp
    with_reducible rfl
  rotate_left
  · simp only [Act.put, List.setIfInBounds_toArray, List.set_cons_zero, List.set_cons_succ, i64_w, i32_w]
    rfl
  refine pure_ (i := 9) (N := some 16) (v := ?_) (a' := ?_) #[true, true, true, true, true, true, false, false, true, true, false, false, false, false, false, false, false, false, false, false, false, false, false, false, false, false, false, false, false, false, false, false, false, false, false, false, false, false, false, false, false, false, false, false, false, false, false, false, false, false, false, false, false, false, false, false, false, false, false, false, false, false, false, false, false, false, false, false, false, false, false, false, false, false, false, false, false, false, false, false, false, false, false, false] rfl rfl (any_of HT_.out (by kernel_rfl)) (fun _ _ _ h => h) (Or.inl ⟨by rfl, ?_⟩) ?_ ?_
  rotate_left
  · intro w'
    go_simp
    with_reducible rfl
  rotate_left
  · simp only [Act.put, List.setIfInBounds_toArray, List.set_cons_zero, List.set_cons_succ, i64_w, i32_w]
    rfl
  refine pure_ (i := 10) (N := some 17) (v := ?_) (a' := ?_) #[true, true, true, true, true, true, false, false, true, true, true, false, false, false, false, false, false, false, false, false, false, false, false, false, false, false, false, false, false, false, false, false, false, false, false, false, false, false, false, false, false, false, false, false, false, false, false, false, false, false, false, false, false, false, false, false, false, false, false, false, false, false, false, false, false, false, false, false, false, false, false, false, false, false, false, false, false, false, false, false, false, false, false, false] rfl rfl (any_of HT_.out (by kernel_rfl)) (fun _ _ _ h => h) (Or.inl ⟨by rfl, ?_⟩) ?_ ?_
  rotate_left
  · intro w'
    go_simp
    with_reducible rfl
  rotate_left
  · simp only [Act.put, List.setIfInBounds_toArray, List.set_cons_zero, List.set_cons_succ, i64_w, i32_w]
    rfl
  refine pure_ (i := 11) (N := some 18) (v := ?_) (a' := ?_) #[true, true, true, true, true, true, false, false, true, true, true, true, false, false, false, false, false, false, false, false, false, false, false, false, false, false, false, false, false, false, false, false, false, false, false, false, false, false, false, false, false, false, false, false, false, false, false, false, false, false, false, false, false, false, false, false, false, false, false, false, false, false, false, false, false, false, false, false, false, false, false, false, false, false, false, false, false, false, false, false, false, false, false, false] rfl rfl (any_of HT_.out (by kernel_rfl)) (fun _ _ _ h => h) (Or.inl ⟨by rfl, ?_⟩) ?_ ?_
  rotate_left
  · intro w'
    go_simp
    with_reducible rfl
  rotate_left
  · simp only [Act.put, List.setIfInBounds_toArray, List.set_cons_zero, List.set_cons_succ, i64_w, i32_w]
    rfl
  refine pure_ (i := 12) (N := some 19) (v := ?_) (a' := ?_) #[true, true, true, true, true, true, false, false, true, true, true, true, true, false, false, false, false, false, false, false, false, false, false, false, false, false, false, false, false, false, false, false, false, false, false, false, false, false, false, false, false, false, false, false, false, false, false, false, false, false, false, false, false, false, false, false, false, false, false, false, false, false, false, false, false, false, false, false, false, false, false, false, false, false, false, false, false, false, false, false, false, false, false, false] rfl rfl (any_of HT_.out (by kernel_rfl)) (fun _ _ _ h => h) (Or.inl ⟨by rfl, ?_⟩) ?_ ?_
  rotate_left
  · intro w'
    go_simp
    with_reducible rfl
  rotate_left
  · simp only [Act.put, List.setIfInBounds_toArray, List.set_cons_zero, List.set_cons_succ, i64_w, i32_w]
    rfl
  refine pure_ (i := 13) (N := some 20) (v := ?_) (a' := ?_) #[true, true, true, true, true, true, false, false, true, true, true, true, true, true, false, false, false, false, false, false, false, false, false, false, false, false, false, false, false, false, false, false, false, false, false, false, false, false, false, false, false, false, false, false, false, false, false, false, false, false, false, false, false, false, false, false, false, false, false, false, false, false, false, false, false, false, false, false, false, false, false, false, false, false, false, false, false, false, false, false, false, false, false, false] rfl rfl (any_of HT_.out (by kernel_rfl)) (fun _ _ _ h => h) (Or.inl ⟨by rfl, ?_⟩) ?_ ?_
  rotate_left
  · intro w'
    go_simp
    with_reducible rfl
  rotate_left
  · simp only [Act.put, List.setIfInBounds_toArray, List.set_cons_zero, List.set_cons_succ, i64_w, i32_w]
    rfl
  refine pure_ (i := 14) (N := some 21) (v := ?_) (a' := ?_) #[true, true, true, true, true, true, false, false, true, true, true, true, true, true, true, false, false, false, false, false, false, false, false, false, false, false, false, false, false, false, false, false, false, false, false, false, false, false, false, false, false, false, false, false, false, false, false, false, false, false, false, false, false, false, false, false, false, false, false, false, false, false, false, false, false, false, false, false, false, false, false, false, false, false, false, false, false, false, false, false, false, false, false, false] rfl rfl (any_of HT_.out (by kernel_rfl)) (fun _ _ _ h => h) (Or.inl ⟨by rfl, ?_⟩) ?_ ?_
  rotate_left
  · intro w'
    go_simp
    with_reducible rfl
  rotate_left
  · simp only [Act.put, List.setIfInBounds_toArray, List.set_cons_zero, List.set_cons_succ, i64_w, i32_w]
    rfl
  refine pure_ (i := 15) (N := some 22) (v := ?_) (a' := ?_) #[true, true, true, true, true, true, false, false, true, true, true, true, true, true, true, true, false, false, false, false, false, false, false, false, false, false, false, false, false, false, false, false, false, false, false, false, false, false, false, false, false, false, false, false, false, false, false, false, false, false, false, false, false, false, false, false, false, false, false, false, false, false, false, false, false, false, false, false, false, false, false, false, false, false, false, false, false, false, false, false, false, false, false, false] rfl rfl (any_of HT_.out (by kernel_rfl)) (fun _ _ _ h => h) (Or.inl ⟨by rfl, ?_⟩) ?_ ?_
  rotate_left
  · intro w'
    go_simp
    with_reducible rfl
  rotate_left
  · simp only [Act.put, List.setIfInBounds_toArray, List.set_cons_zero, List.set_cons_succ, i64_w, i32_w]
    rfl
  refine pure_ (i := 16) (N := some 23) (v := ?_) (a' := ?_) #[true, true, true, true, true, true, false, false, true, true, true, true, true, true, true, true, true, false, false, false, false, false, false, false, false, false, false, false, false, false, false, false, false, false, false, false, false, false, false, false, false, false, false, false, false, false, false, false, false, false, false, false, false, false, false, false, false, false, false, false, false, false, false, false, false, false, false, false, false, false, false, false, false, false, false, false, false, false, false, false, false, false, false, false] rfl rfl (any_of HT_.out (by kernel_rfl)) (fun _ _ _ h => h) (Or.inl ⟨by rfl, ?_⟩) ?_ ?_
  rotate_left
  · intro w'
    go_simp
    with_reducible rfl
  rotate_left
  · simp only [Act.put, List.setIfInBounds_toArray, List.set_cons_zero, List.set_cons_succ, i64_w, i32_w]
    rfl
  refine pure_ (i := 17) (N := some 24) (v := ?_) (a' := ?_) #[true, true, true, true, true, true, false, false, true, true, true, true, true, true, true, true, true, true, false, false, false, false, false, false, false, false, false, false, false, false, false, false, false, false, false, false, false, false, false, false, false, false, false, false, false, false, false, false, false, false, false, false, false, false, false, false, false, false, false, false, false, false, false, false, false, false, false, false, false, false, false, false, false, false, false, false, false, false, false, false, false, false, false, false] rfl rfl (any_of HT_.out (by kernel_rfl)) (fun _ _ _ h => h) (Or.inl ⟨by rfl, ?_⟩) ?_ ?_
  rotate_left
  · intro w'
    go_simp
    with_reducible rfl
  rotate_left
  · simp only [Act.put, List.setIfInBounds_toArray, List.set_cons_zero, List.set_cons_succ, i64_w, i32_w]
    rfl
  refine pure_ (i := 18) (N := some 25) (v := ?_) (a' := ?_) #[true, true, true, true, true, true, false, false, true, true, true, true, true, true, true, true, true, true, true, false, false, false, false, false, false, false, false, false, false, false, false, false, false, false, false, false, false, false, false, false, false, false, false, false, false, false, false, false, false, false, false, false, false, false, false, false, false, false, false, false, false, false, false, false, false, false, false, false, false, false, false, false, false, false, false, false, false, false, false, false, false, false, false, false] rfl rfl (any_of HT_.out (by kernel_rfl)) (fun _ _ _ h => h) (Or.inl ⟨by rfl, ?_⟩) ?_ ?_
  rotate_left
  · intro w'
    go_simp
    with_reducible rfl
  rotate_left
  · simp only [Act.put, List.setIfInBounds_toArray, List.set_cons_zero, List.set_cons_succ, i64_w, i32_w]
    rfl
  refine pure_ (i := 19) (N := some 26) (v := ?_) (a' := ?_) #[true, true, true, true, true, true, false, false, true, true, true, true, true, true, true, true, true, true, true, true, false, false, false, false, false, false, false, false, false, false, false, false, false, false, false, false, false, false, false, false, false, false, false, false, false, false, false, false, false, false, false, false, false, false, false, false, false, false, false, false, false, false, false, false, false, false, false, false, false, false, false, false, false, false, false, false, false, false, false, false, false, false, false, false] rfl rfl (any_of HT_.out (by kernel_rfl)) (fun _ _ _ h => h) (Or.inl ⟨by rfl, ?_⟩) ?_ ?_
  rotate_left
  · intro w'
    go_simp
    with_reducible rfl
  rotate_left
  · simp only [Act.put, List.setIfInBounds_toArray, List.set_cons_zero, List.set_cons_succ, i64_w, i32_w]
    rfl
  refine pure_ (i := 22) (N := some 29) (v := ?_) (a' := ?_) #[true, true, true, true, true, true, false, false, true, true, true, true, true, true, true, true, true, true, true, true, false, false, true, false, false, false, false, false, false, false, false, false, false, false, false, false, false, false, false, false, false, false, false, false, false, false, false, false, false, false, false, false, false, false, false, false, false, false, false, false, false, false, false, false, false, false, false, false, false, false, false, false, false, false, false, false, false, false, false, false, false, false, false, false] rfl rfl (any_of HT_.out (by kernel_rfl)) (fun _ _ _ h => h) (Or.inl ⟨by rfl, ?_⟩) ?_ ?_
  rotate_left
  · intro w'
    go_simp
    with_reducible rfl
  rotate_left
  · simp only [Act.put, List.setIfInBounds_toArray, List.set_cons_zero, List.set_cons_succ, i64_w, i32_w]
    rfl
  refine pure_ (i := 23) (N := some 30) (v := ?_) (a' := ?_) #[true, true, true, true, true, true, false, false, true, true, true, true, true, true, true, true, true, true, true, true, false, false, true, true, false, false, false, false, false, false, false, false, false, false, false, false, false, false, false, false, false, false, false, false, false, false, false, false, false, false, false, false, false, false, false, false, false, false, false, false, false, false, false, false, false, false, false, false, false, false, false, false, false, false, false, false, false, false, false, false, false, false, false, false] rfl rfl (any_of HT_.out (by kernel_rfl)) (fun _ _ _ h => h) (Or.inl ⟨by rfl, ?_⟩) ?_ ?_
  rotate_left
  · intro w'
    go_simp
    with_reducible rfl
  rotate_left
  · simp only [Act.put, List.setIfInBounds_toArray, List.set_cons_zero, List.set_cons_succ, i64_w, i32_w]
    rfl
  refine pure_ (i := 24) (N := some 31) (v := ?_) (a' := ?_) #[true, true, true, true, true, true, false, false, true, true, true, true, true, true, true, true, true, true, true, true, false, false, true, true, true, false, false, false, false, false, false, false, false, false, false, false, false, false, false, false, false, false, false, false, false, false, false, false, false, false, false, false, false, false, false, false, false, false, false, false, false, false, false, false, false, false, false, false, false, false, false, false, false, false, false, false, false, false, false, false, false, false, false, false] rfl rfl (any_of HT_.out (by kernel_rfl)) (fun _ _ _ h => h) (Or.inl ⟨by rfl, ?_⟩) ?_ ?_
  rotate_left
  · intro w'
    go_simp
    with_reducible rfl
  rotate_left
  · simp only [Act.put, List.setIfInBounds_toArray, List.set_cons_zero, List.set_cons_succ, i64_w, i32_w]
    rfl
  refine pure_ (i := 25) (N := some 32) (v := ?_) (a' := ?_) #[true, true, true, true, true, true, false, false, true, true, true, true, true, true, true, true, true, true, true, true, false, false, true, true, true, true, false, false, false, false, false, false, false, false, false, false, false, false, false, false, false, false, false, false, false, false, false, false, false, false, false, false, false, false, false, false, false, false, false, false, false, false, false, false, false, false, false, false, false, false, false, false, false, false, false, false, false, false, false, false, false, false, false, false] rfl rfl (any_of HT_.out (by kernel_rfl)) (fun _ _ _ h => h) (Or.inl ⟨by rfl, ?_⟩) ?_ ?_
  rotate_left
  · intro w'
    go_simp
    with_reducible rfl
  rotate_left
  · simp only [Act.put, List.setIfInBounds_toArray, List.set_cons_zero, List.set_cons_succ, i64_w, i32_w]
    rfl
  refine pure_ (i := 26) (N := some 33) (v := ?_) (a' := ?_) #[true, true, true, true, true, true, false, false, true, true, true, true, true, true, true, true, true, true, true, true, false, false, true, true, true, true, true, false, false, false, false, false, false, false, false, false, false, false, false, false, false, false, false, false, false, false, false, false, false, false, false, false, false, false, false, false, false, false, false, false, false, false, false, false, false, false, false, false, false, false, false, false, false, false, false, false, false, false, false, false, false, false, false, false] rfl rfl (any_of HT_.out (by kernel_rfl)) (fun _ _ _ h => h) (Or.inl ⟨by rfl, ?_⟩) ?_ ?_
  rotate_left
  · intro w'
    go_simp
    with_reducible rfl
  rotate_left
  · simp only [Act.put, List.setIfInBounds_toArray, List.set_cons_zero, List.set_cons_succ, i64_w, i32_w]
    rfl
  refine pure_ (i := 27) (N := some 34) (v := ?_) (a' := ?_) #[true, true, true, true, true, true, false, false, true, true, true, true, true, true, true, true, true, true, true, true, false, false, true, true, true, true, true, true, false, false, false, false, false, false, false, false, false, false, false, false, false, false, false, false, false, false, false, false, false, false, false, false, false, false, false, false, false, false, false, false, false, false, false, false, false, false, false, false, false, false, false, false, false, false, false, false, false, false, false, false, false, false, false, false] rfl rfl (any_of HT_.out (by kernel_rfl)) (fun _ _ _ h => h) (Or.inl ⟨by rfl, ?_⟩) ?_ ?_
  rotate_left
  · intro w'
    go_simp
    with_reducible rfl
  rotate_left
  · simp only [Act.put, List.setIfInBounds_toArray, List.set_cons_zero, List.set_cons_succ, i64_w, i32_w]
    rfl
  refine pure_ (i := 28) (N := some 35) (v := ?_) (a' := ?_) #[true, true, true, true, true, true, false, false, true, true, true, true, true, true, true, true, true, true, true, true, false, false, true, true, true, true, true, true, true, false, false, false, false, false, false, false, false, false, false, false, false, false, false, false, false, false, false, false, false, false, false, false, false, false, false, false, false, false, false, false, false, false, false, false, false, false, false, false, false, false, false, false, false, false, false, false, false, false, false, false, false, false, false, false] rfl rfl (any_of HT_.out (by kernel_rfl)) (fun _ _ _ h => h) (Or.inl ⟨by rfl, ?_⟩) ?_ ?_
  rotate_left
  · intro w'
    go_simp
    with_reducible rfl
  rotate_left
  · simp only [Act.put, List.setIfInBounds_toArray, List.set_cons_zero, List.set_cons_succ, i64_w, i32_w]
    rfl
  refine pure_ (i := 29) (N := some 36) (v := ?_) (a' := ?_) #[true, true, true, true, true, true, false, false, true, true, true, true, true, true, true, true, true, true, true, true, false, false, true, true, true, true, true, true, true, true, false, false, false, false, false, false, false, false, false, false, false, false, false, false, false, false, false, false, false, false, false, false, false, false, false, false, false, false, false, false, false, false, false, false, false, false, false, false, false, false, false, false, false, false, false, false, false, false, false, false, false, false, false, false] rfl rfl (any_of HT_.out (by kernel_rfl)) (fun _ _ _ h => h) (Or.inl ⟨by rfl, ?_⟩) ?_ ?_
  rotate_left
  · intro w'
    go_simp
    with_reducible rfl
  rotate_left
  · simp only [Act.put, List.setIfInBounds_toArray, List.set_cons_zero, List.set_cons_succ, i64_w, i32_w]
    rfl
  refine pure_ (i := 30) (N := some 37) (v := ?_) (a' := ?_) #[true, true, true, true, true, true, false, false, true, true, true, true, true, true, true, true, true, true, true, true, false, false, true, true, true, true, true, true, true, true, true, false, false, false, false, false, false, false, false, false, false, false, false, false, false, false, false, false, false, false, false, false, false, false, false, false, false, false, false, false, false, false, false, false, false, false, false, false, false, false, false, false, false, false, false, false, false, false, false, false, false, false, false, false] rfl rfl (any_of HT_.out (by kernel_rfl)) (fun _ _ _ h => h) (Or.inl ⟨by rfl, ?_⟩) ?_ ?_
  rotate_left
  · intro w'
    go_simp
    with_reducible rfl
  rotate_left
  · simp only [Act.put, List.setIfInBounds_toArray, List.set_cons_zero, List.set_cons_succ, i64_w, i32_w]
    rfl
  refine pure_ (i := 33) (N := some 40) (v := ?_) (a' := ?_) #[true, true, true, true, true, true, false, false, true, true, true, true, true, true, true, true, true, true, true, true, false, false, true, true, true, true, true, true, true, true, true, false, false, true, false, false, false, false, false, false, false, false, false, false, false, false, false, false, false, false, false, false, false, false, false, false, false, false, false, false, false, false, false, false, false, false, false, false, false, false, false, false, false, false, false, false, false, false, false, false, false, false, false, false] rfl rfl (any_of HT_.out (by kernel_rfl)) (fun _ _ _ h => h) (Or.inl ⟨by rfl, ?_⟩) ?_ ?_
  rotate_left
  · intro w'
    go_simp
    with_reducible rfl
  rotate_left
  · simp only [Act.put, List.setIfInBounds_toArray, List.set_cons_zero, List.set_cons_succ, i64_w, i32_w]
    rfl
  refine pure_ (i := 34) (N := some 41) (v := ?_) (a' := ?_) #[true, true, true, true, true, true, false, false, true, true, true, true, true, true, true, true, true, true, true, true, false, false, true, true, true, true, true, true, true, true, true, false, false, true, true, false, false, false, false, false, false, false, false, false, false, false, false, false, false, false, false, false, false, false, false, false, false, false, false, false, false, false, false, false, false, false, false, false, false, false, false, false, false, false, false, false, false, false, false, false, false, false, false, false] rfl rfl (any_of HT_.out (by kernel_rfl)) (fun _ _ _ h => h) (Or.inl ⟨by rfl, ?_⟩) ?_ ?_
  rotate_left
  · intro w'
    go_simp
    with_reducible rfl
  rotate_left
  · simp only [Act.put, List.setIfInBounds_toArray, List.set_cons_zero, List.set_cons_succ, i64_w, i32_w]
    rfl
  refine pure_ (i := 35) (N := some 42) (v := ?_) (a' := ?_) #[true, true, true, true, true, true, false, false, true, true, true, true, true, true, true, true, true, true, true, true, false, false, true, true, true, true, true, true, true, true, true, false, false, true, true, true, false, false, false, false, false, false, false, false, false, false, false, false, false, false, false, false, false, false, false, false, false, false, false, false, false, false, false, false, false, false, false, false, false, false, false, false, false, false, false, false, false, false, false, false, false, false, false, false] rfl rfl (any_of HT_.out (by kernel_rfl)) (fun _ _ _ h => h) (Or.inl ⟨by rfl, ?_⟩) ?_ ?_
  rotate_left
  · intro w'
    go_simp
    with_reducible rfl
  rotate_left
  · simp only [Act.put, List.setIfInBounds_toArray, List.set_cons_zero, List.set_cons_succ, i64_w, i32_w]
    rfl
  refine pure_ (i := 36) (N := some 43) (v := ?_) (a' := ?_) #[true, true, true, true, true, true, false, false, true, true, true, true, true, true, true, true, true, true, true, true, false, false, true, true, true, true, true, true, true, true, true, false, false, true, true, true, true, false, false, false, false, false, false, false, false, false, false, false, false, false, false, false, false, false, false, false, false, false, false, false, false, false, false, false, false, false, false, false, false, false, false, false, false, false, false, false, false, false, false, false, false, false, false, false] rfl rfl (any_of HT_.out (by kernel_rfl)) (fun _ _ _ h => h) (Or.inl ⟨by rfl, ?_⟩) ?_ ?_
  rotate_left
  · intro w'
    go_simp
    with_reducible rfl
  rotate_left
  · simp only [Act.put, List.setIfInBounds_toArray, List.set_cons_zero, List.set_cons_succ, i64_w, i32_w]
    rfl
  refine pure_ (i := 37) (N := some 44) (v := ?_) (a' := ?_) #[true, true, true, true, true, true, false, false, true, true, true, true, true, true, true, true, true, true, true, true, false, false, true, true, true, true, true, true, true, true, true, false, false, true, true, true, true, true, false, false, false, false, false, false, false, false, false, false, false, false, false, false, false, false, false, false, false, false, false, false, false, false, false, false, false, false, false, false, false, false, false, false, false, false, false, false, false, false, false, false, false, false, false, false] rfl rfl (any_of HT_.out (by kernel_rfl)) (fun _ _ _ h => h) (Or.inl ⟨by rfl, ?_⟩) ?_ ?_
  rotate_left
  · intro w'
    go_simp
    with_reducible rfl
  rotate_left
  · simp only [Act.put, List.setIfInBounds_toArray, List.set_cons_zero, List.set_cons_succ, i64_w, i32_w]
    rfl
  refine pure_ (i := 38) (N := some 45) (v := ?_) (a' := ?_) #[true, true, true, true, true, true, false, false, true, true, true, true, true, true, true, true, true, true, true, true, false, false, true, true, true, true, true, true, true, true, true, false, false, true, true, true, true, true, true, false, false, false, false, false, false, false, false, false, false, false, false, false, false, false, false, false, false, false, false, false, false, false, false, false, false, false, false, false, false, false, false, false, false, false, false, false, false, false, false, false, false, false, false, false] rfl rfl (any_of HT_.out (by kernel_rfl)) (fun _ _ _ h => h) (Or.inl ⟨by rfl, ?_⟩) ?_ ?_
  rotate_left
  · intro w'
    go_simp
    with_reducible rfl
  rotate_left
  · simp only [Act.put, List.setIfInBounds_toArray, List.set_cons_zero, List.set_cons_succ, i64_w, i32_w]
    rfl
  refine pure_ (i := 41) (N := some 48) (v := ?_) (a' := ?_) #[true, true, true, true, true, true, false, false, true, true, true, true, true, true, true, true, true, true, true, true, false, false, true, true, true, true, true, true, true, true, true, false, false, true, true, true, true, true, true, false, false, true, false, false, false, false, false, false, false, false, false, false, false, false, false, false, false, false, false, false, false, false, false, false, false, false, false, false, false, false, false, false, false, false, false, false, false, false, false, false, false, false, false, false] rfl rfl (any_of HT_.out (by kernel_rfl)) (fun _ _ _ h => h) (Or.inl ⟨by rfl, ?_⟩) ?_ ?_
  rotate_left
  · intro w'
    go_simp
    with_reducible rfl
  rotate_left
  · simp only [Act.put, List.setIfInBounds_toArray, List.set_cons_zero, List.set_cons_succ, i64_w, i32_w]
    rfl
  refine pure_ (i := 42) (N := some 49) (v := ?_) (a' := ?_) #[true, true, true, true, true, true, false, false, true, true, true, true, true, true, true, true, true, true, true, true, false, false, true, true, true, true, true, true, true, true, true, false, false, true, true, true, true, true, true, false, false, true, true, false, false, false, false, false, false, false, false, false, false, false, false, false, false, false, false, false, false, false, false, false, false, false, false, false, false, false, false, false, false, false, false, false, false, false, false, false, false, false, false, false] rfl rfl (any_of HT_.out (by kernel_rfl)) (fun _ _ _ h => h) (Or.inl ⟨by rfl, ?_⟩) ?_ ?_
  rotate_left
  · intro w'
    go_simp
    with_reducible rfl
  rotate_left
  · simp only [Act.put, List.setIfInBounds_toArray, List.set_cons_zero, List.set_cons_succ, i64_w, i32_w]
    rfl
  refine pure_ (i := 43) (N := some 50) (v := ?_) (a' := ?_) #[true, true, true, true, true, true, false, false, true, true, true, true, true, true, true, true, true, true, true, true, false, false, true, true, true, true, true, true, true, true, true, false, false, true, true, true, true, true, true, false, false, true, true, true, false, false, false, false, false, false, false, false, false, false, false, false, false, false, false, false, false, false, false, false, false, false, false, false, false, false, false, false, false, false, false, false, false, false, false, false, false, false, false, false] rfl rfl (any_of HT_.out (by kernel_rfl)) (fun _ _ _ h => h) (Or.inl ⟨by rfl, ?_⟩) ?_ ?_
  rotate_left
  · intro w'
    go_simp
    with_reducible rfl
  rotate_left
  · simp only [Act.put, List.setIfInBounds_toArray, List.set_cons_zero, List.set_cons_succ, i64_w, i32_w]
    rfl
  refine pure_ (i := 44) (N := some 51) (v := ?_) (a' := ?_) #[true, true, true, true, true, true, false, false, true, true, true, true, true, true, true, true, true, true, true, true, false, false, true, true, true, true, true, true, true, true, true, false, false, true, true, true, true, true, true, false, false, true, true, true, true, false, false, false, false, false, false, false, false, false, false, false, false, false, false, false, false, false, false, false, false, false, false, false, false, false, false, false, false, false, false, false, false, false, false, false, false, false, false, false] rfl rfl (any_of HT_.out (by kernel_rfl)) (fun _ _ _ h => h) (Or.inl ⟨by rfl, ?_⟩) ?_ ?_
  rotate_left
  · intro w'
    go_simp
    with_reducible rfl
  rotate_left
  · simp only [Act.put, List.setIfInBounds_toArray, List.set_cons_zero, List.set_cons_succ, i64_w, i32_w]
    rfl
  refine pure_ (i := 45) (N := some 52) (v := ?_) (a' := ?_) #[true, true, true, true, true, true, false, false, true, true, true, true, true, true, true, true, true, true, true, true, false, false, true, true, true, true, true, true, true, true, true, false, false, true, true, true, true, true, true, false, false, true, true, true, true, true, false, false, false, false, false, false, false, false, false, false, false, false, false, false, false, false, false, false, false, false, false, false, false, false, false, false, false, false, false, false, false, false, false, false, false, false, false, false] rfl rfl (any_of HT_.out (by kernel_rfl)) (fun _ _ _ h => h) (Or.inl ⟨by rfl, ?_⟩) ?_ ?_
  rotate_left
  · intro w'
    go_simp
    with_reducible rfl
  rotate_left
  · simp only [Act.put, List.setIfInBounds_toArray, List.set_cons_zero, List.set_cons_succ, i64_w, i32_w]
    rfl
  refine pure_ (i := 46) (N := some 53) (v := ?_) (a' := ?_) #[true, true, true, true, true, true, false, false, true, true, true, true, true, true, true, true, true, true, true, true, false, false, true, true, true, true, true, true, true, true, true, false, false, true, true, true, true, true, true, false, false, true, true, true, true, true, true, false, false, false, false, false, false, false, false, false, false, false, false, false, false, false, false, false, false, false, false, false, false, false, false, false, false, false, false, false, false, false, false, false, false, false, false, false] rfl rfl (any_of HT_.out (by kernel_rfl)) (fun _ _ _ h => h) (Or.inl ⟨by rfl, ?_⟩) ?_ ?_
  rotate_left
  · intro w'
    go_simp
    with_reducible rfl
  rotate_left
  · simp only [Act.put, List.setIfInBounds_toArray, List.set_cons_zero, List.set_cons_succ, i64_w, i32_w]
    rfl
  refine pure_ (i := 49) (N := some 56) (v := ?_) (a' := ?_) #[true, true, true, true, true, true, false, false, true, true, true, true, true, true, true, true, true, true, true, true, false, false, true, true, true, true, true, true, true, true, true, false, false, true, true, true, true, true, true, false, false, true, true, true, true, true, true, false, false, true, false, false, false, false, false, false, false, false, false, false, false, false, false, false, false, false, false, false, false, false, false, false, false, false, false, false, false, false, false, false, false, false, false, false] rfl rfl (any_of HT_.out (by kernel_rfl)) (fun _ _ _ h => h) (Or.inl ⟨by rfl, ?_⟩) ?_ ?_
  rotate_left
  · intro w'
    go_simp
    with_reducible rfl
  rotate_left
  · simp only [Act.put, List.setIfInBounds_toArray, List.set_cons_zero, List.set_cons_succ, i64_w, i32_w]
    rfl
  refine pure_ (i := 50) (N := some 57) (v := ?_) (a' := ?_) #[true, true, true, true, true, true, false, false, true, true, true, true, true, true, true, true, true, true, true, true, false, false, true, true, true, true, true, true, true, true, true, false, false, true, true, true, true, true, true, false, false, true, true, true, true, true, true, false, false, true, true, false, false, false, false, false, false, false, false, false, false, false, false, false, false, false, false, false, false, false, false, false, false, false, false, false, false, false, false, false, false, false, false, false] rfl rfl (any_of HT_.out (by kernel_rfl)) (fun _ _ _ h => h) (Or.inl ⟨by rfl, ?_⟩) ?_ ?_
  rotate_left
  · intro w'
    go_simp
    with_reducible rfl
  rotate_left
  · simp only [Act.put, List.setIfInBounds_toArray, List.set_cons_zero, List.set_cons_succ, i64_w, i32_w]
    rfl
  refine pure_ (i := 51) (N := some 58) (v := ?_) (a' := ?_) #[true, true, true, true, true, true, false, false, true, true, true, true, true, true, true, true, true, true, true, true, false, false, true, true, true, true, true, true, true, true, true, false, false, true, true, true, true, true, true, false, false, true, true, true, true, true, true, false, false, true, true, true, false, false, false, false, false, false, false, false, false, false, false, false, false, false, false, false, false, false, false, false, false, false, false, false, false, false, false, false, false, false, false, false] rfl rfl (any_of HT_.out (by kernel_rfl)) (fun _ _ _ h => h) (Or.inl ⟨by rfl, ?_⟩) ?_ ?_
  rotate_left
  · intro w'
    go_simp
    with_reducible rfl
  rotate_left
  · simp only [Act.put, List.setIfInBounds_toArray, List.set_cons_zero, List.set_cons_succ, i64_w, i32_w]
    rfl
  refine pure_ (i := 54) (N := some 61) (v := ?_) (a' := ?_) #[true, true, true, true, true, true, false, false, true, true, true, true, true, true, true, true, true, true, true, true, false, false, true, true, true, true, true, true, true, true, true, false, false, true, true, true, true, true, true, false, false, true, true, true, true, true, true, false, false, true, true, true, false, false, true, false, false, false, false, false, false, false, false, false, false, false, false, false, false, false, false, false, false, false, false, false, false, false, false, false, false, false, false, false] rfl rfl (any_of HT_.out (by kernel_rfl)) (fun _ _ _ h => h) (Or.inl ⟨by rfl, ?_⟩) ?_ ?_
  rotate_left
  · intro w'
    go_simp
    with_reducible rfl
  rotate_left
  · simp only [Act.put, List.setIfInBounds_toArray, List.set_cons_zero, List.set_cons_succ, i64_w, i32_w]
    rfl
  refine pure_ (i := 55) (N := some 62) (v := ?_) (a' := ?_) #[true, true, true, true, true, true, false, false, true, true, true, true, true, true, true, true, true, true, true, true, false, false, true, true, true, true, true, true, true, true, true, false, false, true, true, true, true, true, true, false, false, true, true, true, true, true, true, false, false, true, true, true, false, false, true, true, false, false, false, false, false, false, false, false, false, false, false, false, false, false, false, false, false, false, false, false, false, false, false, false, false, false, false, false] rfl rfl (any_of HT_.out (by kernel_rfl)) (fun _ _ _ h => h) (Or.inl ⟨by rfl, ?_⟩) ?_ ?_
  rotate_left
  · intro w'
    go_simp
    with_reducible rfl
  rotate_left
  · simp only [Act.put, List.setIfInBounds_toArray, List.set_cons_zero, List.set_cons_succ, i64_w, i32_w]
    rfl
  refine pure_ (i := 56) (N := some 63) (v := ?_) (a' := ?_) #[true, true, true, true, true, true, false, false, true, true, true, true, true, true, true, true, true, true, true, true, false, false, true, true, true, true, true, true, true, true, true, false, false, true, true, true, true, true, true, false, false, true, true, true, true, true, true, false, false, true, true, true, false, false, true, true, true, false, false, false, false, false, false, false, false, false, false, false, false, false, false, false, false, false, false, false, false, false, false, false, false, false, false, false] rfl rfl (any_of HT_.out (by kernel_rfl)) (fun _ _ _ h => h) (Or.inl ⟨by rfl, ?_⟩) ?_ ?_
  rotate_left
  · intro w'
    go_simp
    with_reducible rfl
  rotate_left
  · simp only [Act.put, List.setIfInBounds_toArray, List.set_cons_zero, List.set_cons_succ, i64_w, i32_w]
    rfl
  refine pure_ (i := 59) (N := some 66) (v := ?_) (a' := ?_) #[true, true, true, true, true, true, false, false, true, true, true, true, true, true, true, true, true, true, true, true, false, false, true, true, true, true, true, true, true, true, true, false, false, true, true, true, true, true, true, false, false, true, true, true, true, true, true, false, false, true, true, true, false, false, true, true, true, false, false, true, false, false, false, false, false, false, false, false, false, false, false, false, false, false, false, false, false, false, false, false, false, false, false, false] rfl rfl (any_of HT_.out (by kernel_rfl)) (fun _ _ _ h => h) (Or.inl ⟨by rfl, ?_⟩) ?_ ?_
  rotate_left
  · intro w'
    go_simp
    with_reducible rfl
  rotate_left
  · simp only [Act.put, List.setIfInBounds_toArray, List.set_cons_zero, List.set_cons_succ, i64_w, i32_w]
    rfl
  refine pure_ (i := 60) (N := some 67) (v := ?_) (a' := ?_) #[true, true, true, true, true, true, false, false, true, true, true, true, true, true, true, true, true, true, true, true, false, false, true, true, true, true, true, true, true, true, true, false, false, true, true, true, true, true, true, false, false, true, true, true, true, true, true, false, false, true, true, true, false, false, true, true, true, false, false, true, true, false, false, false, false, false, false, false, false, false, false, false, false, false, false, false, false, false, false, false, false, false, false, false] rfl rfl (any_of HT_.out (by kernel_rfl)) (fun _ _ _ h => h) (Or.inl ⟨by rfl, ?_⟩) ?_ ?_
  rotate_left
  · intro w'
    go_simp
    with_reducible rfl
  rotate_left
  · simp only [Act.put, List.setIfInBounds_toArray, List.set_cons_zero, List.set_cons_succ, i64_w, i32_w]
    rfl
  refine pure_ (i := 61) (N := some 68) (v := ?_) (a' := ?_) #[true, true, true, true, true, true, false, false, true, true, true, true, true, true, true, true, true, true, true, true, false, false, true, true, true, true, true, true, true, true, true, false, false, true, true, true, true, true, true, false, false, true, true, true, true, true, true, false, false, true, true, true, false, false, true, true, true, false, false, true, true, true, false, false, false, false, false, false, false, false, false, false, false, false, false, false, false, false, false, false, false, false, false, false] rfl rfl (any_of HT_.out (by kernel_rfl)) (fun _ _ _ h => h) (Or.inl ⟨by rfl, ?_⟩) ?_ ?_
  rotate_left
  · intro w'
    go_simp
    with_reducible rfl
  rotate_left
  · simp only [Act.put, List.setIfInBounds_toArray, List.set_cons_zero, List.set_cons_succ, i64_w, i32_w]
    rfl
  refine pure_ (i := 64) (N := some 71) (v := ?_) (a' := ?_) #[true, true, true, true, true, true, false, false, true, true, true, true, true, true, true, true, true, true, true, true, false, false, true, true, true, true, true, true, true, true, true, false, false, true, true, true, true, true, true, false, false, true, true, true, true, true, true, false, false, true, true, true, false, false, true, true, true, false, false, true, true, true, false, false, true, false, false, false, false, false, false, false, false, false, false, false, false, false, false, false, false, false, false, false] rfl rfl (any_of HT_.out (by kernel_rfl)) (fun _ _ _ h => h) (Or.inl ⟨by rfl, ?_⟩) ?_ ?_
  rotate_left
  · intro w'
    go_simp
    with_reducible rfl
  rotate_left
  · simp only [Act.put, List.setIfInBounds_toArray, List.set_cons_zero, List.set_cons_succ, i64_w, i32_w]
    rfl
  refine pure_ (i := 65) (N := some 72) (v := ?_) (a' := ?_) #[true, true, true, true, true, true, false, false, true, true, true, true, true, true, true, true, true, true, true, true, false, false, true, true, true, true, true, true, true, true, true, false, false, true, true, true, true, true, true, false, false, true, true, true, true, true, true, false, false, true, true, true, false, false, true, true, true, false, false, true, true, true, false, false, true, true, false, false, false, false, false, false, false, false, false, false, false, false, false, false, false, false, false, false] rfl rfl (any_of HT_.out (by kernel_rfl)) (fun _ _ _ h => h) (Or.inl ⟨by rfl, ?_⟩) ?_ ?_
  rotate_left
  · intro w'
    go_simp
    with_reducible rfl
  rotate_left
  · simp only [Act.put, List.setIfInBounds_toArray, List.set_cons_zero, List.set_cons_succ, i64_w, i32_w]
    rfl
  refine pure_ (i := 66) (N := some 73) (v := ?_) (a' := ?_) #[true, true, true, true, true, true, false, false, true, true, true, true, true, true, true, true, true, true, true, true, false, false, true, true, true, true, true, true, true, true, true, false, false, true, true, true, true, true, true, false, false, true, true, true, true, true, true, false, false, true, true, true, false, false, true, true, true, false, false, true, true, true, false, false, true, true, true, false, false, false, false, false, false, false, false, false, false, false, false, false, false, false, false, false] rfl rfl (any_of HT_.out (by kernel_rfl)) (fun _ _ _ h => h) (Or.inl ⟨by rfl, ?_⟩) ?_ ?_
  rotate_left
  · intro w'
    go_simp
    with_reducible rfl
  rotate_left
  · simp only [Act.put, List.setIfInBounds_toArray, List.set_cons_zero, List.set_cons_succ, i64_w, i32_w]
    rfl
  refine pure_ (i := 69) (N := some 76) (v := ?_) (a' := ?_) #[true, true, true, true, true, true, false, false, true, true, true, true, true, true, true, true, true, true, true, true, false, false, true, true, true, true, true, true, true, true, true, false, false, true, true, true, true, true, true, false, false, true, true, true, true, true, true, false, false, true, true, true, false, false, true, true, true, false, false, true, true, true, false, false, true, true, true, false, false, true, false, false, false, false, false, false, false, false, false, false, false, false, false, false] rfl rfl (any_of HT_.out (by kernel_rfl)) (fun _ _ _ h => h) (Or.inl ⟨by rfl, ?_⟩) ?_ ?_
  rotate_left
  · intro w'
    go_simp
    with_reducible rfl
  rotate_left
  · simp only [Act.put, List.setIfInBounds_toArray, List.set_cons_zero, List.set_cons_succ, i64_w, i32_w]
    rfl
  refine pure_ (i := 70) (N := some 77) (v := ?_) (a' := ?_) #[true, true, true, true, true, true, false, false, true, true, true, true, true, true, true, true, true, true, true, true, false, false, true, true, true, true, true, true, true, true, true, false, false, true, true, true, true, true, true, false, false, true, true, true, true, true, true, false, false, true, true, true, false, false, true, true, true, false, false, true, true, true, false, false, true, true, true, false, false, true, true, false, false, false, false, false, false, false, false, false, false, false, false, false] rfl rfl (any_of HT_.out (by kernel_rfl)) (fun _ _ _ h => h) (Or.inl ⟨by rfl, ?_⟩) ?_ ?_
  rotate_left
  · intro w'
    go_simp
    with_reducible rfl
  rotate_left
  · simp only [Act.put, List.setIfInBounds_toArray, List.set_cons_zero, List.set_cons_succ, i64_w, i32_w]
    rfl
  refine pure_ (i := 71) (N := some 78) (v := ?_) (a' := ?_) #[true, true, true, true, true, true, false, false, true, true, true, true, true, true, true, true, true, true, true, true, false, false, true, true, true, true, true, true, true, true, true, false, false, true, true, true, true, true, true, false, false, true, true, true, true, true, true, false, false, true, true, true, false, false, true, true, true, false, false, true, true, true, false, false, true, true, true, false, false, true, true, true, false, false, false, false, false, false, false, false, false, false, false, false] rfl rfl (any_of HT_.out (by kernel_rfl)) (fun _ _ _ h => h) (Or.inl ⟨by rfl, ?_⟩) ?_ ?_
  rotate_left
  · intro w'
    go_simp
    with_reducible rfl
  rotate_left
  · simp only [Act.put, List.setIfInBounds_toArray, List.set_cons_zero, List.set_cons_succ, i64_w, i32_w]
    rfl
  refine pure_ (i := 74) (N := some 81) (v := ?_) (a' := ?_) #[true, true, true, true, true, true, false, false, true, true, true, true, true, true, true, true, true, true, true, true, false, false, true, true, true, true, true, true, true, true, true, false, false, true, true, true, true, true, true, false, false, true, true, true, true, true, true, false, false, true, true, true, false, false, true, true, true, false, false, true, true, true, false, false, true, true, true, false, false, true, true, true, false, false, true, false, false, false, false, false, false, false, false, false] rfl rfl (any_of HT_.out (by kernel_rfl)) (fun _ _ _ h => h) (Or.inl ⟨by rfl, ?_⟩) ?_ ?_
  rotate_left
  · intro w'
    go_simp
    with_reducible rfl
  rotate_left
  · simp only [Act.put, List.setIfInBounds_toArray, List.set_cons_zero, List.set_cons_succ, i64_w, i32_w]
    rfl
  refine pure_ (i := 75) (N := some 82) (v := ?_) (a' := ?_) #[true, true, true, true, true, true, false, false, true, true, true, true, true, true, true, true, true, true, true, true, false, false, true, true, true, true, true, true, true, true, true, false, false, true, true, true, true, true, true, false, false, true, true, true, true, true, true, false, false, true, true, true, false, false, true, true, true, false, false, true, true, true, false, false, true, true, true, false, false, true, true, true, false, false, true, true, false, false, false, false, false, false, false, false] rfl rfl (any_of HT_.out (by kernel_rfl)) (fun _ _ _ h => h) (Or.inl ⟨by rfl, ?_⟩) ?_ ?_
  rotate_left
  · intro w'
    go_simp
    with_reducible rfl
  rotate_left
  · simp only [Act.put, List.setIfInBounds_toArray, List.set_cons_zero, List.set_cons_succ, i64_w, i32_w]
    rfl
  refine pure_ (i := 76) (N := some 83) (v := ?_) (a' := ?_) #[true, true, true, true, true, true, false, false, true, true, true, true, true, true, true, true, true, true, true, true, false, false, true, true, true, true, true, true, true, true, true, false, false, true, true, true, true, true, true, false, false, true, true, true, true, true, true, false, false, true, true, true, false, false, true, true, true, false, false, true, true, true, false, false, true, true, true, false, false, true, true, true, false, false, true, true, true, false, false, false, false, false, false, false] rfl rfl (any_of HT_.out (by kernel_rfl)) (fun _ _ _ h => h) (Or.inl ⟨by rfl, ?_⟩) ?_ ?_
  rotate_left
  · intro w'
    go_simp
    with_reducible rfl
  rotate_left
  · simp only [Act.put, List.setIfInBounds_toArray, List.set_cons_zero, List.set_cons_succ, i64_w, i32_w]
    rfl
  refine pure_ (i := 77) (N := some 84) (v := ?_) (a' := ?_) #[true, true, true, true, true, true, false, false, true, true, true, true, true, true, true, true, true, true, true, true, false, false, true, true, true, true, true, true, true, true, true, false, false, true, true, true, true, true, true, false, false, true, true, true, true, true, true, false, false, true, true, true, false, false, true, true, true, false, false, true, true, true, false, false, true, true, true, false, false, true, true, true, false, false, true, true, true, true, false, false, false, false, false, false] rfl rfl (any_of HT_.out (by kernel_rfl)) (fun _ _ _ h => h) (Or.inl ⟨by rfl, ?_⟩) ?_ ?_
  rotate_left
  · intro w'
    go_simp
    with_reducible rfl
  rotate_left
  · simp only [Act.put, List.setIfInBounds_toArray, List.set_cons_zero, List.set_cons_succ, i64_w, i32_w]
    rfl
  refine pure_ (i := 78) (N := some 85) (v := ?_) (a' := ?_) #[true, true, true, true, true, true, false, false, true, true, true, true, true, true, true, true, true, true, true, true, false, false, true, true, true, true, true, true, true, true, true, false, false, true, true, true, true, true, true, false, false, true, true, true, true, true, true, false, false, true, true, true, false, false, true, true, true, false, false, true, true, true, false, false, true, true, true, false, false, true, true, true, false, false, true, true, true, true, true, false, false, false, false, false] rfl rfl (any_of HT_.out (by kernel_rfl)) (fun _ _ _ h => h) (Or.inl ⟨by rfl, ?_⟩) ?_ ?_
  rotate_left
  · intro w'
    go_simp
    with_reducible rfl
  rotate_left
  · simp only [Act.put, List.setIfInBounds_toArray, List.set_cons_zero, List.set_cons_succ, i64_w, i32_w]
    rfl
  refine pure_ (i := 79) (N := some 86) (v := ?_) (a' := ?_) #[true, true, true, true, true, true, false, false, true, true, true, true, true, true, true, true, true, true, true, true, false, false, true, true, true, true, true, true, true, true, true, false, false, true, true, true, true, true, true, false, false, true, true, true, true, true, true, false, false, true, true, true, false, false, true, true, true, false, false, true, true, true, false, false, true, true, true, false, false, true, true, true, false, false, true, true, true, true, true, true, false, false, false, false] rfl rfl (any_of HT_.out (by kernel_rfl)) (fun _ _ _ h => h) (Or.inl ⟨by rfl, ?_⟩) ?_ ?_
  rotate_left
  · intro w'
    go_simp
    with_reducible rfl
  rotate_left
  · simp only [Act.put, List.setIfInBounds_toArray, List.set_cons_zero, List.set_cons_succ, i64_w, i32_w]
    rfl
  refine inv_at [6, 7, 20, 21, 31, 32, 39, 40, 47, 48, 52, 53, 57, 58, 62, 63, 67, 68, 72, 73, 80, 81, 82, 83] (fun a0_ b a w' => ∃ (v13 : Value) (v27 : Value) (v38 : Value) (v46 : Value) (v54 : Value) (v59 : Value) (v64 : Value) (v69 : Value) (v74 : Value) (v79 : Value) (v87 : Value) (v89 : Value) (m7_ : Value) (m21_ : Value) (m32_ : Value) (m40_ : Value) (m48_ : Value) (m53_ : Value) (m58_ : Value) (m63_ : Value) (m68_ : Value) (m73_ : Value) (m81_ : Value) (m83_ : Value), a = putSel a0_ b [(6, 13, v13), (7, 14, m7_), (20, 27, v27), (21, 28, m21_), (31, 38, v38), (32, 39, m32_), (39, 46, v46), (40, 47, m40_), (47, 54, v54), (48, 55, m48_), (52, 59, v59), (53, 60, m53_), (57, 64, v64), (58, 65, m58_), (62, 69, v69), (63, 70, m63_), (67, 74, v74), (68, 75, m68_), (72, 79, v79), (73, 80, m73_), (80, 87, v87), (81, 88, m81_), (82, 89, v89), (83, 2, m83_)] ∧ (Below w.heap.size w w') ∧ (b 6 = true → Kd.R (kPtr B) 52 w' w.heap.size (fun _ => True) v13 ([2, 3] : List Nat)) ∧ (b 20 = true → Kd.R (kPtr B) 52 w' w.heap.size (fun _ => True) v27 ([2, 3, 4, 5] : List Nat)) ∧ (b 31 = true → Kd.R (kPtr B) 52 w' w.heap.size (fun _ => True) v38 ([4, 5, 6] : List Nat)) ∧ (b 39 = true → Kd.R (kPtr B) 52 w' w.heap.size (fun _ => True) v46 ([6, 7] : List Nat)) ∧ (b 47 = true → Kd.R (kPtr B) 52 w' w.heap.size (fun _ => True) v54 ([2, 3] : List Nat)) ∧ (b 52 = true → Kd.R (kPtr B) 52 w' w.heap.size (fun _ => True) v59 ([8] : List Nat)) ∧ (b 57 = true → Kd.R (kPtr B) 52 w' w.heap.size (fun _ => True) v64 ([8] : List Nat)) ∧ (b 62 = true → Kd.R (kPtr B) 52 w' w.heap.size (fun _ => True) v69 ([8] : List Nat)) ∧ (b 67 = true → Kd.R (kPtr B) 52 w' w.heap.size (fun _ => True) v74 ([8] : List Nat)) ∧ (b 72 = true → Kd.R (kPtr B) 52 w' w.heap.size (fun _ => True) v79 ([9] : List Nat)) ∧ (b 80 = true → Kd.R (kPtr B) 52 w' w.heap.size (fun _ => True) v87 ([9, 10] : List Nat)) ∧ (b 82 = true → Kd.R (kMan B) 50 w' w.heap.size (fun _ => True) v89 manners) ∧ (b 7 = true → (m7_ : Value) = .agg #[.string ⟨#[105, 110]⟩, .int .i64 1, .int .i64 1, v13]) ∧ (b 21 = true → (m21_ : Value) = .agg #[.string ⟨#[108, 101, 116]⟩, .int .i64 1, .int .i64 2, v27]) ∧ (b 32 = true → (m32_ : Value) = .agg #[.string ⟨#[116, 114, 97, 100, 101]⟩, .int .i64 1, .int .i64 3, v38]) ∧ (b 40 = true → (m40_ : Value) = .agg #[.string ⟨#[110, 101, 120, 116]⟩, .int .i64 1, .int .i64 4, v46]) ∧ (b 48 = true → (m48_ : Value) = .agg #[.string ⟨#[111, 117, 116]⟩, .int .i64 1, .int .i64 5, v54]) ∧ (b 53 = true → (m53_ : Value) = .agg #[.string ⟨#[104, 101, 97, 114]⟩, .int .i64 2, .int .i64 0, v59]) ∧ (b 58 = true → (m58_ : Value) = .agg #[.string ⟨#[108, 111, 115, 101]⟩, .int .i64 3, .int .i64 0, v64]) ∧ (b 63 = true → (m63_ : Value) = .agg #[.string ⟨#[116, 119, 105, 99, 101]⟩, .int .i64 4, .int .i64 0, v69]) ∧ (b 68 = true → (m68_ : Value) = .agg #[.string ⟨#[103, 105, 118, 101]⟩, .int .i64 6, .int .i64 0, v74]) ∧ (b 73 = true → (m73_ : Value) = .agg #[.string ⟨#[116, 105, 99, 107]⟩, .int .i64 5, .int .i64 0, v79]) ∧ (b 81 = true → (m81_ : Value) = .agg #[.string ⟨#[102, 97, 108, 108]⟩, .int .i64 7, .int .i64 0, v87]) ∧ (b 83 = true → (m83_ : Value) = v89)) HT_.out HW_.out (by kernel_rfl) (by kernel_rfl) ?_ ?_ ?_
  · exact ⟨.bool false, .bool false, .bool false, .bool false, .bool false, .bool false, .bool false, .bool false, .bool false, .bool false, .bool false, .bool false, .bool false, .bool false, .bool false, .bool false, .bool false, .bool false, .bool false, .bool false, .bool false, .bool false, .bool false, .bool false, by simp only [putSel, Bool.false_eq_true, if_false], HB.out, fun h_ => absurd h_ (by decide), fun h_ => absurd h_ (by decide), fun h_ => absurd h_ (by decide), fun h_ => absurd h_ (by decide), fun h_ => absurd h_ (by decide), fun h_ => absurd h_ (by decide), fun h_ => absurd h_ (by decide), fun h_ => absurd h_ (by decide), fun h_ => absurd h_ (by decide), fun h_ => absurd h_ (by decide), fun h_ => absurd h_ (by decide), fun h_ => absurd h_ (by decide), fun h_ => absurd h_ (by decide), fun h_ => absurd h_ (by decide), fun h_ => absurd h_ (by decide), fun h_ => absurd h_ (by decide), fun h_ => absurd h_ (by decide), fun h_ => absurd h_ (by decide), fun h_ => absurd h_ (by decide), fun h_ => absurd h_ (by decide), fun h_ => absurd h_ (by decide), fun h_ => absurd h_ (by decide), fun h_ => absurd h_ (by decide), fun h_ => absurd h_ (by decide)⟩
  · skip
    clear HB
    refine steps_cons ?_ ?_
    · rintro b a w' ⟨v13, v27, v38, v46, v54, v59, v64, v69, v74, v79, v87, v89, m7_, m21_, m32_, m40_, m48_, m53_, m58_, m63_, m68_, m73_, m81_, m83_, ha, Q_HB, Q_F13, Q_F27, Q_F38, Q_F46, Q_F54, Q_F59, Q_F64, Q_F69, Q_F74, Q_F79, Q_F87, Q_FZ, Q_X7_, Q_X21_, Q_X32_, Q_X40_, Q_X48_, Q_X53_, Q_X58_, Q_X63_, Q_X68_, Q_X73_, Q_X81_, Q_X83_⟩ hb_ hon hoff
      refine ⟨_, rfl, fun K hK => ?_⟩
      have e9 : a.tmps[9]? = some (.pointer (some ⟨B, 2, none⟩)) := by rw [ha]; exact (putSel_off rfl).trans rfl
      have e12 : a.tmps[12]? = some (.pointer (some ⟨B, 3, none⟩)) := by rw [ha]; exact (putSel_off rfl).trans rfl
      replace ha := Aside0.mk ha
      have HB := Aside0.mk Q_HB
      refine Kd.R_lit_step (kPtr B) _ 52 ?hg (N := 13) ?hd (xs := ([2, 3] : List Nat)) (inner := [.pointer (some ⟨B, 2, none⟩), .pointer (some ⟨B, 3, none⟩)]) (ok := fun _ => True) (okp := fun _ => True) ?hr ?hp (fun _ hk => hk) trivial HB.out (below_size HB.out) (by decide) ?_; (case hd => rfl); (case hg => rfl); (case hr => first | (go_simp; done) | (go_simp; rfl)); (case hp => exact (Reps.one (show Kd.M (kPtr B) _ _ _ 2 [.pointer (some ⟨B, 2, none⟩)] from rfl) (Reps.one (show Kd.M (kPtr B) _ _ _ 3 [.pointer (some ⟨B, 3, none⟩)] from rfl) (Reps.none _ _))))
      intro v9_ w9_ ho_ hb_2 hg_ hnew_
      refine hK.out _ _ ⟨v9_, v27, v38, v46, v54, v59, v64, v69, v74, v79, v87, v89, m7_, m21_, m32_, m40_, m48_, m53_, m58_, m63_, m68_, m73_, m81_, m83_, (by rw [ha.out]; exact putSel_upk 0 hb_ rfl rfl rfl), hb_2, fun _ => ho_, fun h0_ => Kd.R_grown (Q_F27 h0_) hg_ (fun _ _ h => by cases h), fun h0_ => Kd.R_grown (Q_F38 h0_) hg_ (fun _ _ h => by cases h), fun h0_ => Kd.R_grown (Q_F46 h0_) hg_ (fun _ _ h => by cases h), fun h0_ => Kd.R_grown (Q_F54 h0_) hg_ (fun _ _ h => by cases h), fun h0_ => Kd.R_grown (Q_F59 h0_) hg_ (fun _ _ h => by cases h), fun h0_ => Kd.R_grown (Q_F64 h0_) hg_ (fun _ _ h => by cases h), fun h0_ => Kd.R_grown (Q_F69 h0_) hg_ (fun _ _ h => by cases h), fun h0_ => Kd.R_grown (Q_F74 h0_) hg_ (fun _ _ h => by cases h), fun h0_ => Kd.R_grown (Q_F79 h0_) hg_ (fun _ _ h => by cases h), fun h0_ => Kd.R_grown (Q_F87 h0_) hg_ (fun _ _ h => by cases h), fun h0_ => absurd ((hoff 82 (by kernel_rfl)).symm.trans h0_) (by decide), fun h0_ => absurd ((hoff 7 (by kernel_rfl)).symm.trans h0_) (by decide), Q_X21_, Q_X32_, Q_X40_, Q_X48_, Q_X53_, Q_X58_, Q_X63_, Q_X68_, Q_X73_, Q_X81_, fun h0_ => absurd ((hoff 83 (by kernel_rfl)).symm.trans h0_) (by decide)⟩
    refine steps_cons ?_ ?_
    · rintro b a w' ⟨v13, v27, v38, v46, v54, v59, v64, v69, v74, v79, v87, v89, m7_, m21_, m32_, m40_, m48_, m53_, m58_, m63_, m68_, m73_, m81_, m83_, ha, Q_HB, Q_F13, Q_F27, Q_F38, Q_F46, Q_F54, Q_F59, Q_F64, Q_F69, Q_F74, Q_F79, Q_F87, Q_FZ, Q_X7_, Q_X21_, Q_X32_, Q_X40_, Q_X48_, Q_X53_, Q_X58_, Q_X63_, Q_X68_, Q_X73_, Q_X81_, Q_X83_⟩ hb_ hon hoff
      refine ⟨_, rfl, fun K hK => ?_⟩
      have e13 : a.tmps[13]? = some (v13) := by rw [ha]; exact putSel_on (e := (6, 13, v13)) 0 rfl rfl (hon 6 (by kernel_rfl)) rfl
      replace ha := Aside0.mk ha
      have HB := Aside0.mk Q_HB
      have F13 := Aside0.mk (Q_F13 (hon 6 (by kernel_rfl)))
      obtain ⟨A0_, c0_, hv_⟩ := Kd.R_slice F13.out
      subst hv_
      refine value_ (w1 := w') (v := .agg #[.string ⟨#[105, 110]⟩, .int .i64 1, .int .i64 1, (.slice A0_ ([2, 3] : List Nat).length c0_)]) (by rfl) rfl ?_ ?_
      · go_simp
        (try simp only [i64_w])
        try rfl
      refine hK.out _ _ ⟨(.slice A0_ ([2, 3] : List Nat).length c0_), v27, v38, v46, v54, v59, v64, v69, v74, v79, v87, v89, (.agg #[.string ⟨#[105, 110]⟩, .int .i64 1, .int .i64 1, (.slice A0_ ([2, 3] : List Nat).length c0_)]), m21_, m32_, m40_, m48_, m53_, m58_, m63_, m68_, m73_, m81_, m83_, (by rw [ha.out]; exact putSel_upk 1 hb_ rfl rfl rfl), Q_HB, Q_F13, Q_F27, Q_F38, Q_F46, Q_F54, Q_F59, Q_F64, Q_F69, Q_F74, Q_F79, Q_F87, fun h0_ => absurd ((hoff 82 (by kernel_rfl)).symm.trans h0_) (by decide), fun _ => rfl, Q_X21_, Q_X32_, Q_X40_, Q_X48_, Q_X53_, Q_X58_, Q_X63_, Q_X68_, Q_X73_, Q_X81_, fun h0_ => absurd ((hoff 83 (by kernel_rfl)).symm.trans h0_) (by decide)⟩
    refine steps_cons ?_ ?_
    · rintro b a w' ⟨v13, v27, v38, v46, v54, v59, v64, v69, v74, v79, v87, v89, m7_, m21_, m32_, m40_, m48_, m53_, m58_, m63_, m68_, m73_, m81_, m83_, ha, Q_HB, Q_F13, Q_F27, Q_F38, Q_F46, Q_F54, Q_F59, Q_F64, Q_F69, Q_F74, Q_F79, Q_F87, Q_FZ, Q_X7_, Q_X21_, Q_X32_, Q_X40_, Q_X48_, Q_X53_, Q_X58_, Q_X63_, Q_X68_, Q_X73_, Q_X81_, Q_X83_⟩ hb_ hon hoff
      refine ⟨_, rfl, fun K hK => ?_⟩
      have e17 : a.tmps[17]? = some (.pointer (some ⟨B, 2, none⟩)) := by rw [ha]; exact (putSel_off rfl).trans rfl
      have e20 : a.tmps[20]? = some (.pointer (some ⟨B, 3, none⟩)) := by rw [ha]; exact (putSel_off rfl).trans rfl
      have e23 : a.tmps[23]? = some (.pointer (some ⟨B, 4, none⟩)) := by rw [ha]; exact (putSel_off rfl).trans rfl
      have e26 : a.tmps[26]? = some (.pointer (some ⟨B, 5, none⟩)) := by rw [ha]; exact (putSel_off rfl).trans rfl
      replace ha := Aside0.mk ha
      have HB := Aside0.mk Q_HB
      refine Kd.R_lit_step (kPtr B) _ 52 ?hg (N := 27) ?hd (xs := ([2, 3, 4, 5] : List Nat)) (inner := [.pointer (some ⟨B, 2, none⟩), .pointer (some ⟨B, 3, none⟩), .pointer (some ⟨B, 4, none⟩), .pointer (some ⟨B, 5, none⟩)]) (ok := fun _ => True) (okp := fun _ => True) ?hr ?hp (fun _ hk => hk) trivial HB.out (below_size HB.out) (by decide) ?_; (case hd => rfl); (case hg => rfl); (case hr => first | (go_simp; done) | (go_simp; rfl)); (case hp => exact (Reps.one (show Kd.M (kPtr B) _ _ _ 2 [.pointer (some ⟨B, 2, none⟩)] from rfl) (Reps.one (show Kd.M (kPtr B) _ _ _ 3 [.pointer (some ⟨B, 3, none⟩)] from rfl) (Reps.one (show Kd.M (kPtr B) _ _ _ 4 [.pointer (some ⟨B, 4, none⟩)] from rfl) (Reps.one (show Kd.M (kPtr B) _ _ _ 5 [.pointer (some ⟨B, 5, none⟩)] from rfl) (Reps.none _ _))))))
      intro v9_ w9_ ho_ hb_2 hg_ hnew_
      refine hK.out _ _ ⟨v13, v9_, v38, v46, v54, v59, v64, v69, v74, v79, v87, v89, m7_, m21_, m32_, m40_, m48_, m53_, m58_, m63_, m68_, m73_, m81_, m83_, (by rw [ha.out]; exact putSel_upk 2 hb_ rfl rfl rfl), hb_2, fun h0_ => Kd.R_grown (Q_F13 h0_) hg_ (fun _ _ h => by cases h), fun _ => ho_, fun h0_ => Kd.R_grown (Q_F38 h0_) hg_ (fun _ _ h => by cases h), fun h0_ => Kd.R_grown (Q_F46 h0_) hg_ (fun _ _ h => by cases h), fun h0_ => Kd.R_grown (Q_F54 h0_) hg_ (fun _ _ h => by cases h), fun h0_ => Kd.R_grown (Q_F59 h0_) hg_ (fun _ _ h => by cases h), fun h0_ => Kd.R_grown (Q_F64 h0_) hg_ (fun _ _ h => by cases h), fun h0_ => Kd.R_grown (Q_F69 h0_) hg_ (fun _ _ h => by cases h), fun h0_ => Kd.R_grown (Q_F74 h0_) hg_ (fun _ _ h => by cases h), fun h0_ => Kd.R_grown (Q_F79 h0_) hg_ (fun _ _ h => by cases h), fun h0_ => Kd.R_grown (Q_F87 h0_) hg_ (fun _ _ h => by cases h), fun h0_ => absurd ((hoff 82 (by kernel_rfl)).symm.trans h0_) (by decide), Q_X7_, fun h0_ => absurd ((hoff 21 (by kernel_rfl)).symm.trans h0_) (by decide), Q_X32_, Q_X40_, Q_X48_, Q_X53_, Q_X58_, Q_X63_, Q_X68_, Q_X73_, Q_X81_, fun h0_ => absurd ((hoff 83 (by kernel_rfl)).symm.trans h0_) (by decide)⟩
    refine steps_cons ?_ ?_
    · rintro b a w' ⟨v13, v27, v38, v46, v54, v59, v64, v69, v74, v79, v87, v89, m7_, m21_, m32_, m40_, m48_, m53_, m58_, m63_, m68_, m73_, m81_, m83_, ha, Q_HB, Q_F13, Q_F27, Q_F38, Q_F46, Q_F54, Q_F59, Q_F64, Q_F69, Q_F74, Q_F79, Q_F87, Q_FZ, Q_X7_, Q_X21_, Q_X32_, Q_X40_, Q_X48_, Q_X53_, Q_X58_, Q_X63_, Q_X68_, Q_X73_, Q_X81_, Q_X83_⟩ hb_ hon hoff
      refine ⟨_, rfl, fun K hK => ?_⟩
      have e27 : a.tmps[27]? = some (v27) := by rw [ha]; exact putSel_on (e := (20, 27, v27)) 2 rfl rfl (hon 20 (by kernel_rfl)) rfl
      replace ha := Aside0.mk ha
      have HB := Aside0.mk Q_HB
      have F27 := Aside0.mk (Q_F27 (hon 20 (by kernel_rfl)))
      obtain ⟨A0_, c0_, hv_⟩ := Kd.R_slice F27.out
      subst hv_
      refine value_ (w1 := w') (v := .agg #[.string ⟨#[108, 101, 116]⟩, .int .i64 1, .int .i64 2, (.slice A0_ ([2, 3, 4, 5] : List Nat).length c0_)]) (by rfl) rfl ?_ ?_
      · go_simp
        (try simp only [i64_w])
        try rfl
      refine hK.out _ _ ⟨v13, (.slice A0_ ([2, 3, 4, 5] : List Nat).length c0_), v38, v46, v54, v59, v64, v69, v74, v79, v87, v89, m7_, (.agg #[.string ⟨#[108, 101, 116]⟩, .int .i64 1, .int .i64 2, (.slice A0_ ([2, 3, 4, 5] : List Nat).length c0_)]), m32_, m40_, m48_, m53_, m58_, m63_, m68_, m73_, m81_, m83_, (by rw [ha.out]; exact putSel_upk 3 hb_ rfl rfl rfl), Q_HB, Q_F13, Q_F27, Q_F38, Q_F46, Q_F54, Q_F59, Q_F64, Q_F69, Q_F74, Q_F79, Q_F87, fun h0_ => absurd ((hoff 82 (by kernel_rfl)).symm.trans h0_) (by decide), Q_X7_, fun _ => rfl, Q_X32_, Q_X40_, Q_X48_, Q_X53_, Q_X58_, Q_X63_, Q_X68_, Q_X73_, Q_X81_, fun h0_ => absurd ((hoff 83 (by kernel_rfl)).symm.trans h0_) (by decide)⟩
    refine steps_cons ?_ ?_
    · rintro b a w' ⟨v13, v27, v38, v46, v54, v59, v64, v69, v74, v79, v87, v89, m7_, m21_, m32_, m40_, m48_, m53_, m58_, m63_, m68_, m73_, m81_, m83_, ha, Q_HB, Q_F13, Q_F27, Q_F38, Q_F46, Q_F54, Q_F59, Q_F64, Q_F69, Q_F74, Q_F79, Q_F87, Q_FZ, Q_X7_, Q_X21_, Q_X32_, Q_X40_, Q_X48_, Q_X53_, Q_X58_, Q_X63_, Q_X68_, Q_X73_, Q_X81_, Q_X83_⟩ hb_ hon hoff
      refine ⟨_, rfl, fun K hK => ?_⟩
      have e31 : a.tmps[31]? = some (.pointer (some ⟨B, 4, none⟩)) := by rw [ha]; exact (putSel_off rfl).trans rfl
      have e34 : a.tmps[34]? = some (.pointer (some ⟨B, 5, none⟩)) := by rw [ha]; exact (putSel_off rfl).trans rfl
      have e37 : a.tmps[37]? = some (.pointer (some ⟨B, 6, none⟩)) := by rw [ha]; exact (putSel_off rfl).trans rfl
      replace ha := Aside0.mk ha
      have HB := Aside0.mk Q_HB
      refine Kd.R_lit_step (kPtr B) _ 52 ?hg (N := 38) ?hd (xs := ([4, 5, 6] : List Nat)) (inner := [.pointer (some ⟨B, 4, none⟩), .pointer (some ⟨B, 5, none⟩), .pointer (some ⟨B, 6, none⟩)]) (ok := fun _ => True) (okp := fun _ => True) ?hr ?hp (fun _ hk => hk) trivial HB.out (below_size HB.out) (by decide) ?_; (case hd => rfl); (case hg => rfl); (case hr => first | (go_simp; done) | (go_simp; rfl)); (case hp => exact (Reps.one (show Kd.M (kPtr B) _ _ _ 4 [.pointer (some ⟨B, 4, none⟩)] from rfl) (Reps.one (show Kd.M (kPtr B) _ _ _ 5 [.pointer (some ⟨B, 5, none⟩)] from rfl) (Reps.one (show Kd.M (kPtr B) _ _ _ 6 [.pointer (some ⟨B, 6, none⟩)] from rfl) (Reps.none _ _)))))
      intro v9_ w9_ ho_ hb_2 hg_ hnew_
      refine hK.out _ _ ⟨v13, v27, v9_, v46, v54, v59, v64, v69, v74, v79, v87, v89, m7_, m21_, m32_, m40_, m48_, m53_, m58_, m63_, m68_, m73_, m81_, m83_, (by rw [ha.out]; exact putSel_upk 4 hb_ rfl rfl rfl), hb_2, fun h0_ => Kd.R_grown (Q_F13 h0_) hg_ (fun _ _ h => by cases h), fun h0_ => Kd.R_grown (Q_F27 h0_) hg_ (fun _ _ h => by cases h), fun _ => ho_, fun h0_ => Kd.R_grown (Q_F46 h0_) hg_ (fun _ _ h => by cases h), fun h0_ => Kd.R_grown (Q_F54 h0_) hg_ (fun _ _ h => by cases h), fun h0_ => Kd.R_grown (Q_F59 h0_) hg_ (fun _ _ h => by cases h), fun h0_ => Kd.R_grown (Q_F64 h0_) hg_ (fun _ _ h => by cases h), fun h0_ => Kd.R_grown (Q_F69 h0_) hg_ (fun _ _ h => by cases h), fun h0_ => Kd.R_grown (Q_F74 h0_) hg_ (fun _ _ h => by cases h), fun h0_ => Kd.R_grown (Q_F79 h0_) hg_ (fun _ _ h => by cases h), fun h0_ => Kd.R_grown (Q_F87 h0_) hg_ (fun _ _ h => by cases h), fun h0_ => absurd ((hoff 82 (by kernel_rfl)).symm.trans h0_) (by decide), Q_X7_, Q_X21_, fun h0_ => absurd ((hoff 32 (by kernel_rfl)).symm.trans h0_) (by decide), Q_X40_, Q_X48_, Q_X53_, Q_X58_, Q_X63_, Q_X68_, Q_X73_, Q_X81_, fun h0_ => absurd ((hoff 83 (by kernel_rfl)).symm.trans h0_) (by decide)⟩
    refine steps_cons ?_ ?_
    · rintro b a w' ⟨v13, v27, v38, v46, v54, v59, v64, v69, v74, v79, v87, v89, m7_, m21_, m32_, m40_, m48_, m53_, m58_, m63_, m68_, m73_, m81_, m83_, ha, Q_HB, Q_F13, Q_F27, Q_F38, Q_F46, Q_F54, Q_F59, Q_F64, Q_F69, Q_F74, Q_F79, Q_F87, Q_FZ, Q_X7_, Q_X21_, Q_X32_, Q_X40_, Q_X48_, Q_X53_, Q_X58_, Q_X63_, Q_X68_, Q_X73_, Q_X81_, Q_X83_⟩ hb_ hon hoff
      refine ⟨_, rfl, fun K hK => ?_⟩
      have e38 : a.tmps[38]? = some (v38) := by rw [ha]; exact putSel_on (e := (31, 38, v38)) 4 rfl rfl (hon 31 (by kernel_rfl)) rfl
      replace ha := Aside0.mk ha
      have HB := Aside0.mk Q_HB
      have F38 := Aside0.mk (Q_F38 (hon 31 (by kernel_rfl)))
      obtain ⟨A0_, c0_, hv_⟩ := Kd.R_slice F38.out
      subst hv_
      refine value_ (w1 := w') (v := .agg #[.string ⟨#[116, 114, 97, 100, 101]⟩, .int .i64 1, .int .i64 3, (.slice A0_ ([4, 5, 6] : List Nat).length c0_)]) (by rfl) rfl ?_ ?_
      · go_simp
        (try simp only [i64_w])
        try rfl
      refine hK.out _ _ ⟨v13, v27, (.slice A0_ ([4, 5, 6] : List Nat).length c0_), v46, v54, v59, v64, v69, v74, v79, v87, v89, m7_, m21_, (.agg #[.string ⟨#[116, 114, 97, 100, 101]⟩, .int .i64 1, .int .i64 3, (.slice A0_ ([4, 5, 6] : List Nat).length c0_)]), m40_, m48_, m53_, m58_, m63_, m68_, m73_, m81_, m83_, (by rw [ha.out]; exact putSel_upk 5 hb_ rfl rfl rfl), Q_HB, Q_F13, Q_F27, Q_F38, Q_F46, Q_F54, Q_F59, Q_F64, Q_F69, Q_F74, Q_F79, Q_F87, fun h0_ => absurd ((hoff 82 (by kernel_rfl)).symm.trans h0_) (by decide), Q_X7_, Q_X21_, fun _ => rfl, Q_X40_, Q_X48_, Q_X53_, Q_X58_, Q_X63_, Q_X68_, Q_X73_, Q_X81_, fun h0_ => absurd ((hoff 83 (by kernel_rfl)).symm.trans h0_) (by decide)⟩
    refine steps_cons ?_ ?_
    · rintro b a w' ⟨v13, v27, v38, v46, v54, v59, v64, v69, v74, v79, v87, v89, m7_, m21_, m32_, m40_, m48_, m53_, m58_, m63_, m68_, m73_, m81_, m83_, ha, Q_HB, Q_F13, Q_F27, Q_F38, Q_F46, Q_F54, Q_F59, Q_F64, Q_F69, Q_F74, Q_F79, Q_F87, Q_FZ, Q_X7_, Q_X21_, Q_X32_, Q_X40_, Q_X48_, Q_X53_, Q_X58_, Q_X63_, Q_X68_, Q_X73_, Q_X81_, Q_X83_⟩ hb_ hon hoff
      refine ⟨_, rfl, fun K hK => ?_⟩
      have e42 : a.tmps[42]? = some (.pointer (some ⟨B, 6, none⟩)) := by rw [ha]; exact (putSel_off rfl).trans rfl
      have e45 : a.tmps[45]? = some (.pointer (some ⟨B, 7, none⟩)) := by rw [ha]; exact (putSel_off rfl).trans rfl
      replace ha := Aside0.mk ha
      have HB := Aside0.mk Q_HB
      refine Kd.R_lit_step (kPtr B) _ 52 ?hg (N := 46) ?hd (xs := ([6, 7] : List Nat)) (inner := [.pointer (some ⟨B, 6, none⟩), .pointer (some ⟨B, 7, none⟩)]) (ok := fun _ => True) (okp := fun _ => True) ?hr ?hp (fun _ hk => hk) trivial HB.out (below_size HB.out) (by decide) ?_; (case hd => rfl); (case hg => rfl); (case hr => first | (go_simp; done) | (go_simp; rfl)); (case hp => exact (Reps.one (show Kd.M (kPtr B) _ _ _ 6 [.pointer (some ⟨B, 6, none⟩)] from rfl) (Reps.one (show Kd.M (kPtr B) _ _ _ 7 [.pointer (some ⟨B, 7, none⟩)] from rfl) (Reps.none _ _))))
      intro v9_ w9_ ho_ hb_2 hg_ hnew_
      refine hK.out _ _ ⟨v13, v27, v38, v9_, v54, v59, v64, v69, v74, v79, v87, v89, m7_, m21_, m32_, m40_, m48_, m53_, m58_, m63_, m68_, m73_, m81_, m83_, (by rw [ha.out]; exact putSel_upk 6 hb_ rfl rfl rfl), hb_2, fun h0_ => Kd.R_grown (Q_F13 h0_) hg_ (fun _ _ h => by cases h), fun h0_ => Kd.R_grown (Q_F27 h0_) hg_ (fun _ _ h => by cases h), fun h0_ => Kd.R_grown (Q_F38 h0_) hg_ (fun _ _ h => by cases h), fun _ => ho_, fun h0_ => Kd.R_grown (Q_F54 h0_) hg_ (fun _ _ h => by cases h), fun h0_ => Kd.R_grown (Q_F59 h0_) hg_ (fun _ _ h => by cases h), fun h0_ => Kd.R_grown (Q_F64 h0_) hg_ (fun _ _ h => by cases h), fun h0_ => Kd.R_grown (Q_F69 h0_) hg_ (fun _ _ h => by cases h), fun h0_ => Kd.R_grown (Q_F74 h0_) hg_ (fun _ _ h => by cases h), fun h0_ => Kd.R_grown (Q_F79 h0_) hg_ (fun _ _ h => by cases h), fun h0_ => Kd.R_grown (Q_F87 h0_) hg_ (fun _ _ h => by cases h), fun h0_ => absurd ((hoff 82 (by kernel_rfl)).symm.trans h0_) (by decide), Q_X7_, Q_X21_, Q_X32_, fun h0_ => absurd ((hoff 40 (by kernel_rfl)).symm.trans h0_) (by decide), Q_X48_, Q_X53_, Q_X58_, Q_X63_, Q_X68_, Q_X73_, Q_X81_, fun h0_ => absurd ((hoff 83 (by kernel_rfl)).symm.trans h0_) (by decide)⟩
    refine steps_cons ?_ ?_
    · rintro b a w' ⟨v13, v27, v38, v46, v54, v59, v64, v69, v74, v79, v87, v89, m7_, m21_, m32_, m40_, m48_, m53_, m58_, m63_, m68_, m73_, m81_, m83_, ha, Q_HB, Q_F13, Q_F27, Q_F38, Q_F46, Q_F54, Q_F59, Q_F64, Q_F69, Q_F74, Q_F79, Q_F87, Q_FZ, Q_X7_, Q_X21_, Q_X32_, Q_X40_, Q_X48_, Q_X53_, Q_X58_, Q_X63_, Q_X68_, Q_X73_, Q_X81_, Q_X83_⟩ hb_ hon hoff
      refine ⟨_, rfl, fun K hK => ?_⟩
      have e46 : a.tmps[46]? = some (v46) := by rw [ha]; exact putSel_on (e := (39, 46, v46)) 6 rfl rfl (hon 39 (by kernel_rfl)) rfl
      replace ha := Aside0.mk ha
      have HB := Aside0.mk Q_HB
      have F46 := Aside0.mk (Q_F46 (hon 39 (by kernel_rfl)))
      obtain ⟨A0_, c0_, hv_⟩ := Kd.R_slice F46.out
      subst hv_
      refine value_ (w1 := w') (v := .agg #[.string ⟨#[110, 101, 120, 116]⟩, .int .i64 1, .int .i64 4, (.slice A0_ ([6, 7] : List Nat).length c0_)]) (by rfl) rfl ?_ ?_
      · go_simp
        (try simp only [i64_w])
        try rfl
      refine hK.out _ _ ⟨v13, v27, v38, (.slice A0_ ([6, 7] : List Nat).length c0_), v54, v59, v64, v69, v74, v79, v87, v89, m7_, m21_, m32_, (.agg #[.string ⟨#[110, 101, 120, 116]⟩, .int .i64 1, .int .i64 4, (.slice A0_ ([6, 7] : List Nat).length c0_)]), m48_, m53_, m58_, m63_, m68_, m73_, m81_, m83_, (by rw [ha.out]; exact putSel_upk 7 hb_ rfl rfl rfl), Q_HB, Q_F13, Q_F27, Q_F38, Q_F46, Q_F54, Q_F59, Q_F64, Q_F69, Q_F74, Q_F79, Q_F87, fun h0_ => absurd ((hoff 82 (by kernel_rfl)).symm.trans h0_) (by decide), Q_X7_, Q_X21_, Q_X32_, fun _ => rfl, Q_X48_, Q_X53_, Q_X58_, Q_X63_, Q_X68_, Q_X73_, Q_X81_, fun h0_ => absurd ((hoff 83 (by kernel_rfl)).symm.trans h0_) (by decide)⟩
    refine steps_cons ?_ ?_
    · rintro b a w' ⟨v13, v27, v38, v46, v54, v59, v64, v69, v74, v79, v87, v89, m7_, m21_, m32_, m40_, m48_, m53_, m58_, m63_, m68_, m73_, m81_, m83_, ha, Q_HB, Q_F13, Q_F27, Q_F38, Q_F46, Q_F54, Q_F59, Q_F64, Q_F69, Q_F74, Q_F79, Q_F87, Q_FZ, Q_X7_, Q_X21_, Q_X32_, Q_X40_, Q_X48_, Q_X53_, Q_X58_, Q_X63_, Q_X68_, Q_X73_, Q_X81_, Q_X83_⟩ hb_ hon hoff
      refine ⟨_, rfl, fun K hK => ?_⟩
      have e50 : a.tmps[50]? = some (.pointer (some ⟨B, 2, none⟩)) := by rw [ha]; exact (putSel_off rfl).trans rfl
      have e53 : a.tmps[53]? = some (.pointer (some ⟨B, 3, none⟩)) := by rw [ha]; exact (putSel_off rfl).trans rfl
      replace ha := Aside0.mk ha
      have HB := Aside0.mk Q_HB
      refine Kd.R_lit_step (kPtr B) _ 52 ?hg (N := 54) ?hd (xs := ([2, 3] : List Nat)) (inner := [.pointer (some ⟨B, 2, none⟩), .pointer (some ⟨B, 3, none⟩)]) (ok := fun _ => True) (okp := fun _ => True) ?hr ?hp (fun _ hk => hk) trivial HB.out (below_size HB.out) (by decide) ?_; (case hd => rfl); (case hg => rfl); (case hr => first | (go_simp; done) | (go_simp; rfl)); (case hp => exact (Reps.one (show Kd.M (kPtr B) _ _ _ 2 [.pointer (some ⟨B, 2, none⟩)] from rfl) (Reps.one (show Kd.M (kPtr B) _ _ _ 3 [.pointer (some ⟨B, 3, none⟩)] from rfl) (Reps.none _ _))))
      intro v9_ w9_ ho_ hb_2 hg_ hnew_
      refine hK.out _ _ ⟨v13, v27, v38, v46, v9_, v59, v64, v69, v74, v79, v87, v89, m7_, m21_, m32_, m40_, m48_, m53_, m58_, m63_, m68_, m73_, m81_, m83_, (by rw [ha.out]; exact putSel_upk 8 hb_ rfl rfl rfl), hb_2, fun h0_ => Kd.R_grown (Q_F13 h0_) hg_ (fun _ _ h => by cases h), fun h0_ => Kd.R_grown (Q_F27 h0_) hg_ (fun _ _ h => by cases h), fun h0_ => Kd.R_grown (Q_F38 h0_) hg_ (fun _ _ h => by cases h), fun h0_ => Kd.R_grown (Q_F46 h0_) hg_ (fun _ _ h => by cases h), fun _ => ho_, fun h0_ => Kd.R_grown (Q_F59 h0_) hg_ (fun _ _ h => by cases h), fun h0_ => Kd.R_grown (Q_F64 h0_) hg_ (fun _ _ h => by cases h), fun h0_ => Kd.R_grown (Q_F69 h0_) hg_ (fun _ _ h => by cases h), fun h0_ => Kd.R_grown (Q_F74 h0_) hg_ (fun _ _ h => by cases h), fun h0_ => Kd.R_grown (Q_F79 h0_) hg_ (fun _ _ h => by cases h), fun h0_ => Kd.R_grown (Q_F87 h0_) hg_ (fun _ _ h => by cases h), fun h0_ => absurd ((hoff 82 (by kernel_rfl)).symm.trans h0_) (by decide), Q_X7_, Q_X21_, Q_X32_, Q_X40_, fun h0_ => absurd ((hoff 48 (by kernel_rfl)).symm.trans h0_) (by decide), Q_X53_, Q_X58_, Q_X63_, Q_X68_, Q_X73_, Q_X81_, fun h0_ => absurd ((hoff 83 (by kernel_rfl)).symm.trans h0_) (by decide)⟩
    refine steps_cons ?_ ?_
    · rintro b a w' ⟨v13, v27, v38, v46, v54, v59, v64, v69, v74, v79, v87, v89, m7_, m21_, m32_, m40_, m48_, m53_, m58_, m63_, m68_, m73_, m81_, m83_, ha, Q_HB, Q_F13, Q_F27, Q_F38, Q_F46, Q_F54, Q_F59, Q_F64, Q_F69, Q_F74, Q_F79, Q_F87, Q_FZ, Q_X7_, Q_X21_, Q_X32_, Q_X40_, Q_X48_, Q_X53_, Q_X58_, Q_X63_, Q_X68_, Q_X73_, Q_X81_, Q_X83_⟩ hb_ hon hoff
      refine ⟨_, rfl, fun K hK => ?_⟩
      have e54 : a.tmps[54]? = some (v54) := by rw [ha]; exact putSel_on (e := (47, 54, v54)) 8 rfl rfl (hon 47 (by kernel_rfl)) rfl
      replace ha := Aside0.mk ha
      have HB := Aside0.mk Q_HB
      have F54 := Aside0.mk (Q_F54 (hon 47 (by kernel_rfl)))
      obtain ⟨A0_, c0_, hv_⟩ := Kd.R_slice F54.out
      subst hv_
      refine value_ (w1 := w') (v := .agg #[.string ⟨#[111, 117, 116]⟩, .int .i64 1, .int .i64 5, (.slice A0_ ([2, 3] : List Nat).length c0_)]) (by rfl) rfl ?_ ?_
      · go_simp
        (try simp only [i64_w])
        try rfl
      refine hK.out _ _ ⟨v13, v27, v38, v46, (.slice A0_ ([2, 3] : List Nat).length c0_), v59, v64, v69, v74, v79, v87, v89, m7_, m21_, m32_, m40_, (.agg #[.string ⟨#[111, 117, 116]⟩, .int .i64 1, .int .i64 5, (.slice A0_ ([2, 3] : List Nat).length c0_)]), m53_, m58_, m63_, m68_, m73_, m81_, m83_, (by rw [ha.out]; exact putSel_upk 9 hb_ rfl rfl rfl), Q_HB, Q_F13, Q_F27, Q_F38, Q_F46, Q_F54, Q_F59, Q_F64, Q_F69, Q_F74, Q_F79, Q_F87, fun h0_ => absurd ((hoff 82 (by kernel_rfl)).symm.trans h0_) (by decide), Q_X7_, Q_X21_, Q_X32_, Q_X40_, fun _ => rfl, Q_X53_, Q_X58_, Q_X63_, Q_X68_, Q_X73_, Q_X81_, fun h0_ => absurd ((hoff 83 (by kernel_rfl)).symm.trans h0_) (by decide)⟩
    refine steps_cons ?_ ?_
    · rintro b a w' ⟨v13, v27, v38, v46, v54, v59, v64, v69, v74, v79, v87, v89, m7_, m21_, m32_, m40_, m48_, m53_, m58_, m63_, m68_, m73_, m81_, m83_, ha, Q_HB, Q_F13, Q_F27, Q_F38, Q_F46, Q_F54, Q_F59, Q_F64, Q_F69, Q_F74, Q_F79, Q_F87, Q_FZ, Q_X7_, Q_X21_, Q_X32_, Q_X40_, Q_X48_, Q_X53_, Q_X58_, Q_X63_, Q_X68_, Q_X73_, Q_X81_, Q_X83_⟩ hb_ hon hoff
      refine ⟨_, rfl, fun K hK => ?_⟩
      have e58 : a.tmps[58]? = some (.pointer (some ⟨B, 8, none⟩)) := by rw [ha]; exact (putSel_off rfl).trans rfl
      replace ha := Aside0.mk ha
      have HB := Aside0.mk Q_HB
      refine Kd.R_lit_step (kPtr B) _ 52 ?hg (N := 59) ?hd (xs := ([8] : List Nat)) (inner := [.pointer (some ⟨B, 8, none⟩)]) (ok := fun _ => True) (okp := fun _ => True) ?hr ?hp (fun _ hk => hk) trivial HB.out (below_size HB.out) (by decide) ?_; (case hd => rfl); (case hg => rfl); (case hr => first | (go_simp; done) | (go_simp; rfl)); (case hp => exact (Reps.one (show Kd.M (kPtr B) _ _ _ 8 [.pointer (some ⟨B, 8, none⟩)] from rfl) (Reps.none _ _)))
      intro v9_ w9_ ho_ hb_2 hg_ hnew_
      refine hK.out _ _ ⟨v13, v27, v38, v46, v54, v9_, v64, v69, v74, v79, v87, v89, m7_, m21_, m32_, m40_, m48_, m53_, m58_, m63_, m68_, m73_, m81_, m83_, (by rw [ha.out]; exact putSel_upk 10 hb_ rfl rfl rfl), hb_2, fun h0_ => Kd.R_grown (Q_F13 h0_) hg_ (fun _ _ h => by cases h), fun h0_ => Kd.R_grown (Q_F27 h0_) hg_ (fun _ _ h => by cases h), fun h0_ => Kd.R_grown (Q_F38 h0_) hg_ (fun _ _ h => by cases h), fun h0_ => Kd.R_grown (Q_F46 h0_) hg_ (fun _ _ h => by cases h), fun h0_ => Kd.R_grown (Q_F54 h0_) hg_ (fun _ _ h => by cases h), fun _ => ho_, fun h0_ => Kd.R_grown (Q_F64 h0_) hg_ (fun _ _ h => by cases h), fun h0_ => Kd.R_grown (Q_F69 h0_) hg_ (fun _ _ h => by cases h), fun h0_ => Kd.R_grown (Q_F74 h0_) hg_ (fun _ _ h => by cases h), fun h0_ => Kd.R_grown (Q_F79 h0_) hg_ (fun _ _ h => by cases h), fun h0_ => Kd.R_grown (Q_F87 h0_) hg_ (fun _ _ h => by cases h), fun h0_ => absurd ((hoff 82 (by kernel_rfl)).symm.trans h0_) (by decide), Q_X7_, Q_X21_, Q_X32_, Q_X40_, Q_X48_, fun h0_ => absurd ((hoff 53 (by kernel_rfl)).symm.trans h0_) (by decide), Q_X58_, Q_X63_, Q_X68_, Q_X73_, Q_X81_, fun h0_ => absurd ((hoff 83 (by kernel_rfl)).symm.trans h0_) (by decide)⟩
    refine steps_cons ?_ ?_
    · rintro b a w' ⟨v13, v27, v38, v46, v54, v59, v64, v69, v74, v79, v87, v89, m7_, m21_, m32_, m40_, m48_, m53_, m58_, m63_, m68_, m73_, m81_, m83_, ha, Q_HB, Q_F13, Q_F27, Q_F38, Q_F46, Q_F54, Q_F59, Q_F64, Q_F69, Q_F74, Q_F79, Q_F87, Q_FZ, Q_X7_, Q_X21_, Q_X32_, Q_X40_, Q_X48_, Q_X53_, Q_X58_, Q_X63_, Q_X68_, Q_X73_, Q_X81_, Q_X83_⟩ hb_ hon hoff
      refine ⟨_, rfl, fun K hK => ?_⟩
      have e59 : a.tmps[59]? = some (v59) := by rw [ha]; exact putSel_on (e := (52, 59, v59)) 10 rfl rfl (hon 52 (by kernel_rfl)) rfl
      replace ha := Aside0.mk ha
      have HB := Aside0.mk Q_HB
      have F59 := Aside0.mk (Q_F59 (hon 52 (by kernel_rfl)))
      obtain ⟨A0_, c0_, hv_⟩ := Kd.R_slice F59.out
      subst hv_
      refine value_ (w1 := w') (v := .agg #[.string ⟨#[104, 101, 97, 114]⟩, .int .i64 2, .int .i64 0, (.slice A0_ ([8] : List Nat).length c0_)]) (by rfl) rfl ?_ ?_
      · go_simp
        (try simp only [i64_w])
        try rfl
      refine hK.out _ _ ⟨v13, v27, v38, v46, v54, (.slice A0_ ([8] : List Nat).length c0_), v64, v69, v74, v79, v87, v89, m7_, m21_, m32_, m40_, m48_, (.agg #[.string ⟨#[104, 101, 97, 114]⟩, .int .i64 2, .int .i64 0, (.slice A0_ ([8] : List Nat).length c0_)]), m58_, m63_, m68_, m73_, m81_, m83_, (by rw [ha.out]; exact putSel_upk 11 hb_ rfl rfl rfl), Q_HB, Q_F13, Q_F27, Q_F38, Q_F46, Q_F54, Q_F59, Q_F64, Q_F69, Q_F74, Q_F79, Q_F87, fun h0_ => absurd ((hoff 82 (by kernel_rfl)).symm.trans h0_) (by decide), Q_X7_, Q_X21_, Q_X32_, Q_X40_, Q_X48_, fun _ => rfl, Q_X58_, Q_X63_, Q_X68_, Q_X73_, Q_X81_, fun h0_ => absurd ((hoff 83 (by kernel_rfl)).symm.trans h0_) (by decide)⟩
    refine steps_cons ?_ ?_
    · rintro b a w' ⟨v13, v27, v38, v46, v54, v59, v64, v69, v74, v79, v87, v89, m7_, m21_, m32_, m40_, m48_, m53_, m58_, m63_, m68_, m73_, m81_, m83_, ha, Q_HB, Q_F13, Q_F27, Q_F38, Q_F46, Q_F54, Q_F59, Q_F64, Q_F69, Q_F74, Q_F79, Q_F87, Q_FZ, Q_X7_, Q_X21_, Q_X32_, Q_X40_, Q_X48_, Q_X53_, Q_X58_, Q_X63_, Q_X68_, Q_X73_, Q_X81_, Q_X83_⟩ hb_ hon hoff
      refine ⟨_, rfl, fun K hK => ?_⟩
      have e63 : a.tmps[63]? = some (.pointer (some ⟨B, 8, none⟩)) := by rw [ha]; exact (putSel_off rfl).trans rfl
      replace ha := Aside0.mk ha
      have HB := Aside0.mk Q_HB
      refine Kd.R_lit_step (kPtr B) _ 52 ?hg (N := 64) ?hd (xs := ([8] : List Nat)) (inner := [.pointer (some ⟨B, 8, none⟩)]) (ok := fun _ => True) (okp := fun _ => True) ?hr ?hp (fun _ hk => hk) trivial HB.out (below_size HB.out) (by decide) ?_; (case hd => rfl); (case hg => rfl); (case hr => first | (go_simp; done) | (go_simp; rfl)); (case hp => exact (Reps.one (show Kd.M (kPtr B) _ _ _ 8 [.pointer (some ⟨B, 8, none⟩)] from rfl) (Reps.none _ _)))
      intro v9_ w9_ ho_ hb_2 hg_ hnew_
      refine hK.out _ _ ⟨v13, v27, v38, v46, v54, v59, v9_, v69, v74, v79, v87, v89, m7_, m21_, m32_, m40_, m48_, m53_, m58_, m63_, m68_, m73_, m81_, m83_, (by rw [ha.out]; exact putSel_upk 12 hb_ rfl rfl rfl), hb_2, fun h0_ => Kd.R_grown (Q_F13 h0_) hg_ (fun _ _ h => by cases h), fun h0_ => Kd.R_grown (Q_F27 h0_) hg_ (fun _ _ h => by cases h), fun h0_ => Kd.R_grown (Q_F38 h0_) hg_ (fun _ _ h => by cases h), fun h0_ => Kd.R_grown (Q_F46 h0_) hg_ (fun _ _ h => by cases h), fun h0_ => Kd.R_grown (Q_F54 h0_) hg_ (fun _ _ h => by cases h), fun h0_ => Kd.R_grown (Q_F59 h0_) hg_ (fun _ _ h => by cases h), fun _ => ho_, fun h0_ => Kd.R_grown (Q_F69 h0_) hg_ (fun _ _ h => by cases h), fun h0_ => Kd.R_grown (Q_F74 h0_) hg_ (fun _ _ h => by cases h), fun h0_ => Kd.R_grown (Q_F79 h0_) hg_ (fun _ _ h => by cases h), fun h0_ => Kd.R_grown (Q_F87 h0_) hg_ (fun _ _ h => by cases h), fun h0_ => absurd ((hoff 82 (by kernel_rfl)).symm.trans h0_) (by decide), Q_X7_, Q_X21_, Q_X32_, Q_X40_, Q_X48_, Q_X53_, fun h0_ => absurd ((hoff 58 (by kernel_rfl)).symm.trans h0_) (by decide), Q_X63_, Q_X68_, Q_X73_, Q_X81_, fun h0_ => absurd ((hoff 83 (by kernel_rfl)).symm.trans h0_) (by decide)⟩
    refine steps_cons ?_ ?_
    · rintro b a w' ⟨v13, v27, v38, v46, v54, v59, v64, v69, v74, v79, v87, v89, m7_, m21_, m32_, m40_, m48_, m53_, m58_, m63_, m68_, m73_, m81_, m83_, ha, Q_HB, Q_F13, Q_F27, Q_F38, Q_F46, Q_F54, Q_F59, Q_F64, Q_F69, Q_F74, Q_F79, Q_F87, Q_FZ, Q_X7_, Q_X21_, Q_X32_, Q_X40_, Q_X48_, Q_X53_, Q_X58_, Q_X63_, Q_X68_, Q_X73_, Q_X81_, Q_X83_⟩ hb_ hon hoff
      refine ⟨_, rfl, fun K hK => ?_⟩
      have e64 : a.tmps[64]? = some (v64) := by rw [ha]; exact putSel_on (e := (57, 64, v64)) 12 rfl rfl (hon 57 (by kernel_rfl)) rfl
      replace ha := Aside0.mk ha
      have HB := Aside0.mk Q_HB
      have F64 := Aside0.mk (Q_F64 (hon 57 (by kernel_rfl)))
      obtain ⟨A0_, c0_, hv_⟩ := Kd.R_slice F64.out
      subst hv_
      refine value_ (w1 := w') (v := .agg #[.string ⟨#[108, 111, 115, 101]⟩, .int .i64 3, .int .i64 0, (.slice A0_ ([8] : List Nat).length c0_)]) (by rfl) rfl ?_ ?_
      · go_simp
        (try simp only [i64_w])
        try rfl
      refine hK.out _ _ ⟨v13, v27, v38, v46, v54, v59, (.slice A0_ ([8] : List Nat).length c0_), v69, v74, v79, v87, v89, m7_, m21_, m32_, m40_, m48_, m53_, (.agg #[.string ⟨#[108, 111, 115, 101]⟩, .int .i64 3, .int .i64 0, (.slice A0_ ([8] : List Nat).length c0_)]), m63_, m68_, m73_, m81_, m83_, (by rw [ha.out]; exact putSel_upk 13 hb_ rfl rfl rfl), Q_HB, Q_F13, Q_F27, Q_F38, Q_F46, Q_F54, Q_F59, Q_F64, Q_F69, Q_F74, Q_F79, Q_F87, fun h0_ => absurd ((hoff 82 (by kernel_rfl)).symm.trans h0_) (by decide), Q_X7_, Q_X21_, Q_X32_, Q_X40_, Q_X48_, Q_X53_, fun _ => rfl, Q_X63_, Q_X68_, Q_X73_, Q_X81_, fun h0_ => absurd ((hoff 83 (by kernel_rfl)).symm.trans h0_) (by decide)⟩
    refine steps_cons ?_ ?_
    · rintro b a w' ⟨v13, v27, v38, v46, v54, v59, v64, v69, v74, v79, v87, v89, m7_, m21_, m32_, m40_, m48_, m53_, m58_, m63_, m68_, m73_, m81_, m83_, ha, Q_HB, Q_F13, Q_F27, Q_F38, Q_F46, Q_F54, Q_F59, Q_F64, Q_F69, Q_F74, Q_F79, Q_F87, Q_FZ, Q_X7_, Q_X21_, Q_X32_, Q_X40_, Q_X48_, Q_X53_, Q_X58_, Q_X63_, Q_X68_, Q_X73_, Q_X81_, Q_X83_⟩ hb_ hon hoff
      refine ⟨_, rfl, fun K hK => ?_⟩
      have e68 : a.tmps[68]? = some (.pointer (some ⟨B, 8, none⟩)) := by rw [ha]; exact (putSel_off rfl).trans rfl
      replace ha := Aside0.mk ha
      have HB := Aside0.mk Q_HB
      refine Kd.R_lit_step (kPtr B) _ 52 ?hg (N := 69) ?hd (xs := ([8] : List Nat)) (inner := [.pointer (some ⟨B, 8, none⟩)]) (ok := fun _ => True) (okp := fun _ => True) ?hr ?hp (fun _ hk => hk) trivial HB.out (below_size HB.out) (by decide) ?_; (case hd => rfl); (case hg => rfl); (case hr => first | (go_simp; done) | (go_simp; rfl)); (case hp => exact (Reps.one (show Kd.M (kPtr B) _ _ _ 8 [.pointer (some ⟨B, 8, none⟩)] from rfl) (Reps.none _ _)))
      intro v9_ w9_ ho_ hb_2 hg_ hnew_
      refine hK.out _ _ ⟨v13, v27, v38, v46, v54, v59, v64, v9_, v74, v79, v87, v89, m7_, m21_, m32_, m40_, m48_, m53_, m58_, m63_, m68_, m73_, m81_, m83_, (by rw [ha.out]; exact putSel_upk 14 hb_ rfl rfl rfl), hb_2, fun h0_ => Kd.R_grown (Q_F13 h0_) hg_ (fun _ _ h => by cases h), fun h0_ => Kd.R_grown (Q_F27 h0_) hg_ (fun _ _ h => by cases h), fun h0_ => Kd.R_grown (Q_F38 h0_) hg_ (fun _ _ h => by cases h), fun h0_ => Kd.R_grown (Q_F46 h0_) hg_ (fun _ _ h => by cases h), fun h0_ => Kd.R_grown (Q_F54 h0_) hg_ (fun _ _ h => by cases h), fun h0_ => Kd.R_grown (Q_F59 h0_) hg_ (fun _ _ h => by cases h), fun h0_ => Kd.R_grown (Q_F64 h0_) hg_ (fun _ _ h => by cases h), fun _ => ho_, fun h0_ => Kd.R_grown (Q_F74 h0_) hg_ (fun _ _ h => by cases h), fun h0_ => Kd.R_grown (Q_F79 h0_) hg_ (fun _ _ h => by cases h), fun h0_ => Kd.R_grown (Q_F87 h0_) hg_ (fun _ _ h => by cases h), fun h0_ => absurd ((hoff 82 (by kernel_rfl)).symm.trans h0_) (by decide), Q_X7_, Q_X21_, Q_X32_, Q_X40_, Q_X48_, Q_X53_, Q_X58_, fun h0_ => absurd ((hoff 63 (by kernel_rfl)).symm.trans h0_) (by decide), Q_X68_, Q_X73_, Q_X81_, fun h0_ => absurd ((hoff 83 (by kernel_rfl)).symm.trans h0_) (by decide)⟩
    refine steps_cons ?_ ?_
    · rintro b a w' ⟨v13, v27, v38, v46, v54, v59, v64, v69, v74, v79, v87, v89, m7_, m21_, m32_, m40_, m48_, m53_, m58_, m63_, m68_, m73_, m81_, m83_, ha, Q_HB, Q_F13, Q_F27, Q_F38, Q_F46, Q_F54, Q_F59, Q_F64, Q_F69, Q_F74, Q_F79, Q_F87, Q_FZ, Q_X7_, Q_X21_, Q_X32_, Q_X40_, Q_X48_, Q_X53_, Q_X58_, Q_X63_, Q_X68_, Q_X73_, Q_X81_, Q_X83_⟩ hb_ hon hoff
      refine ⟨_, rfl, fun K hK => ?_⟩
      have e69 : a.tmps[69]? = some (v69) := by rw [ha]; exact putSel_on (e := (62, 69, v69)) 14 rfl rfl (hon 62 (by kernel_rfl)) rfl
      replace ha := Aside0.mk ha
      have HB := Aside0.mk Q_HB
      have F69 := Aside0.mk (Q_F69 (hon 62 (by kernel_rfl)))
      obtain ⟨A0_, c0_, hv_⟩ := Kd.R_slice F69.out
      subst hv_
      refine value_ (w1 := w') (v := .agg #[.string ⟨#[116, 119, 105, 99, 101]⟩, .int .i64 4, .int .i64 0, (.slice A0_ ([8] : List Nat).length c0_)]) (by rfl) rfl ?_ ?_
      · go_simp
        (try simp only [i64_w])
        try rfl
      refine hK.out _ _ ⟨v13, v27, v38, v46, v54, v59, v64, (.slice A0_ ([8] : List Nat).length c0_), v74, v79, v87, v89, m7_, m21_, m32_, m40_, m48_, m53_, m58_, (.agg #[.string ⟨#[116, 119, 105, 99, 101]⟩, .int .i64 4, .int .i64 0, (.slice A0_ ([8] : List Nat).length c0_)]), m68_, m73_, m81_, m83_, (by rw [ha.out]; exact putSel_upk 15 hb_ rfl rfl rfl), Q_HB, Q_F13, Q_F27, Q_F38, Q_F46, Q_F54, Q_F59, Q_F64, Q_F69, Q_F74, Q_F79, Q_F87, fun h0_ => absurd ((hoff 82 (by kernel_rfl)).symm.trans h0_) (by decide), Q_X7_, Q_X21_, Q_X32_, Q_X40_, Q_X48_, Q_X53_, Q_X58_, fun _ => rfl, Q_X68_, Q_X73_, Q_X81_, fun h0_ => absurd ((hoff 83 (by kernel_rfl)).symm.trans h0_) (by decide)⟩
    refine steps_cons ?_ ?_
    · rintro b a w' ⟨v13, v27, v38, v46, v54, v59, v64, v69, v74, v79, v87, v89, m7_, m21_, m32_, m40_, m48_, m53_, m58_, m63_, m68_, m73_, m81_, m83_, ha, Q_HB, Q_F13, Q_F27, Q_F38, Q_F46, Q_F54, Q_F59, Q_F64, Q_F69, Q_F74, Q_F79, Q_F87, Q_FZ, Q_X7_, Q_X21_, Q_X32_, Q_X40_, Q_X48_, Q_X53_, Q_X58_, Q_X63_, Q_X68_, Q_X73_, Q_X81_, Q_X83_⟩ hb_ hon hoff
      refine ⟨_, rfl, fun K hK => ?_⟩
      have e73 : a.tmps[73]? = some (.pointer (some ⟨B, 8, none⟩)) := by rw [ha]; exact (putSel_off rfl).trans rfl
      replace ha := Aside0.mk ha
      have HB := Aside0.mk Q_HB
      refine Kd.R_lit_step (kPtr B) _ 52 ?hg (N := 74) ?hd (xs := ([8] : List Nat)) (inner := [.pointer (some ⟨B, 8, none⟩)]) (ok := fun _ => True) (okp := fun _ => True) ?hr ?hp (fun _ hk => hk) trivial HB.out (below_size HB.out) (by decide) ?_; (case hd => rfl); (case hg => rfl); (case hr => first | (go_simp; done) | (go_simp; rfl)); (case hp => exact (Reps.one (show Kd.M (kPtr B) _ _ _ 8 [.pointer (some ⟨B, 8, none⟩)] from rfl) (Reps.none _ _)))
      intro v9_ w9_ ho_ hb_2 hg_ hnew_
      refine hK.out _ _ ⟨v13, v27, v38, v46, v54, v59, v64, v69, v9_, v79, v87, v89, m7_, m21_, m32_, m40_, m48_, m53_, m58_, m63_, m68_, m73_, m81_, m83_, (by rw [ha.out]; exact putSel_upk 16 hb_ rfl rfl rfl), hb_2, fun h0_ => Kd.R_grown (Q_F13 h0_) hg_ (fun _ _ h => by cases h), fun h0_ => Kd.R_grown (Q_F27 h0_) hg_ (fun _ _ h => by cases h), fun h0_ => Kd.R_grown (Q_F38 h0_) hg_ (fun _ _ h => by cases h), fun h0_ => Kd.R_grown (Q_F46 h0_) hg_ (fun _ _ h => by cases h), fun h0_ => Kd.R_grown (Q_F54 h0_) hg_ (fun _ _ h => by cases h), fun h0_ => Kd.R_grown (Q_F59 h0_) hg_ (fun _ _ h => by cases h), fun h0_ => Kd.R_grown (Q_F64 h0_) hg_ (fun _ _ h => by cases h), fun h0_ => Kd.R_grown (Q_F69 h0_) hg_ (fun _ _ h => by cases h), fun _ => ho_, fun h0_ => Kd.R_grown (Q_F79 h0_) hg_ (fun _ _ h => by cases h), fun h0_ => Kd.R_grown (Q_F87 h0_) hg_ (fun _ _ h => by cases h), fun h0_ => absurd ((hoff 82 (by kernel_rfl)).symm.trans h0_) (by decide), Q_X7_, Q_X21_, Q_X32_, Q_X40_, Q_X48_, Q_X53_, Q_X58_, Q_X63_, fun h0_ => absurd ((hoff 68 (by kernel_rfl)).symm.trans h0_) (by decide), Q_X73_, Q_X81_, fun h0_ => absurd ((hoff 83 (by kernel_rfl)).symm.trans h0_) (by decide)⟩
    refine steps_cons ?_ ?_
    · rintro b a w' ⟨v13, v27, v38, v46, v54, v59, v64, v69, v74, v79, v87, v89, m7_, m21_, m32_, m40_, m48_, m53_, m58_, m63_, m68_, m73_, m81_, m83_, ha, Q_HB, Q_F13, Q_F27, Q_F38, Q_F46, Q_F54, Q_F59, Q_F64, Q_F69, Q_F74, Q_F79, Q_F87, Q_FZ, Q_X7_, Q_X21_, Q_X32_, Q_X40_, Q_X48_, Q_X53_, Q_X58_, Q_X63_, Q_X68_, Q_X73_, Q_X81_, Q_X83_⟩ hb_ hon hoff
      refine ⟨_, rfl, fun K hK => ?_⟩
      have e74 : a.tmps[74]? = some (v74) := by rw [ha]; exact putSel_on (e := (67, 74, v74)) 16 rfl rfl (hon 67 (by kernel_rfl)) rfl
      replace ha := Aside0.mk ha
      have HB := Aside0.mk Q_HB
      have F74 := Aside0.mk (Q_F74 (hon 67 (by kernel_rfl)))
      obtain ⟨A0_, c0_, hv_⟩ := Kd.R_slice F74.out
      subst hv_
      refine value_ (w1 := w') (v := .agg #[.string ⟨#[103, 105, 118, 101]⟩, .int .i64 6, .int .i64 0, (.slice A0_ ([8] : List Nat).length c0_)]) (by rfl) rfl ?_ ?_
      · go_simp
        (try simp only [i64_w])
        try rfl
      refine hK.out _ _ ⟨v13, v27, v38, v46, v54, v59, v64, v69, (.slice A0_ ([8] : List Nat).length c0_), v79, v87, v89, m7_, m21_, m32_, m40_, m48_, m53_, m58_, m63_, (.agg #[.string ⟨#[103, 105, 118, 101]⟩, .int .i64 6, .int .i64 0, (.slice A0_ ([8] : List Nat).length c0_)]), m73_, m81_, m83_, (by rw [ha.out]; exact putSel_upk 17 hb_ rfl rfl rfl), Q_HB, Q_F13, Q_F27, Q_F38, Q_F46, Q_F54, Q_F59, Q_F64, Q_F69, Q_F74, Q_F79, Q_F87, fun h0_ => absurd ((hoff 82 (by kernel_rfl)).symm.trans h0_) (by decide), Q_X7_, Q_X21_, Q_X32_, Q_X40_, Q_X48_, Q_X53_, Q_X58_, Q_X63_, fun _ => rfl, Q_X73_, Q_X81_, fun h0_ => absurd ((hoff 83 (by kernel_rfl)).symm.trans h0_) (by decide)⟩
    refine steps_cons ?_ ?_
    · rintro b a w' ⟨v13, v27, v38, v46, v54, v59, v64, v69, v74, v79, v87, v89, m7_, m21_, m32_, m40_, m48_, m53_, m58_, m63_, m68_, m73_, m81_, m83_, ha, Q_HB, Q_F13, Q_F27, Q_F38, Q_F46, Q_F54, Q_F59, Q_F64, Q_F69, Q_F74, Q_F79, Q_F87, Q_FZ, Q_X7_, Q_X21_, Q_X32_, Q_X40_, Q_X48_, Q_X53_, Q_X58_, Q_X63_, Q_X68_, Q_X73_, Q_X81_, Q_X83_⟩ hb_ hon hoff
      refine ⟨_, rfl, fun K hK => ?_⟩
      have e78 : a.tmps[78]? = some (.pointer (some ⟨B, 9, none⟩)) := by rw [ha]; exact (putSel_off rfl).trans rfl
      replace ha := Aside0.mk ha
      have HB := Aside0.mk Q_HB
      refine Kd.R_lit_step (kPtr B) _ 52 ?hg (N := 79) ?hd (xs := ([9] : List Nat)) (inner := [.pointer (some ⟨B, 9, none⟩)]) (ok := fun _ => True) (okp := fun _ => True) ?hr ?hp (fun _ hk => hk) trivial HB.out (below_size HB.out) (by decide) ?_; (case hd => rfl); (case hg => rfl); (case hr => first | (go_simp; done) | (go_simp; rfl)); (case hp => exact (Reps.one (show Kd.M (kPtr B) _ _ _ 9 [.pointer (some ⟨B, 9, none⟩)] from rfl) (Reps.none _ _)))
      intro v9_ w9_ ho_ hb_2 hg_ hnew_
      refine hK.out _ _ ⟨v13, v27, v38, v46, v54, v59, v64, v69, v74, v9_, v87, v89, m7_, m21_, m32_, m40_, m48_, m53_, m58_, m63_, m68_, m73_, m81_, m83_, (by rw [ha.out]; exact putSel_upk 18 hb_ rfl rfl rfl), hb_2, fun h0_ => Kd.R_grown (Q_F13 h0_) hg_ (fun _ _ h => by cases h), fun h0_ => Kd.R_grown (Q_F27 h0_) hg_ (fun _ _ h => by cases h), fun h0_ => Kd.R_grown (Q_F38 h0_) hg_ (fun _ _ h => by cases h), fun h0_ => Kd.R_grown (Q_F46 h0_) hg_ (fun _ _ h => by cases h), fun h0_ => Kd.R_grown (Q_F54 h0_) hg_ (fun _ _ h => by cases h), fun h0_ => Kd.R_grown (Q_F59 h0_) hg_ (fun _ _ h => by cases h), fun h0_ => Kd.R_grown (Q_F64 h0_) hg_ (fun _ _ h => by cases h), fun h0_ => Kd.R_grown (Q_F69 h0_) hg_ (fun _ _ h => by cases h), fun h0_ => Kd.R_grown (Q_F74 h0_) hg_ (fun _ _ h => by cases h), fun _ => ho_, fun h0_ => Kd.R_grown (Q_F87 h0_) hg_ (fun _ _ h => by cases h), fun h0_ => absurd ((hoff 82 (by kernel_rfl)).symm.trans h0_) (by decide), Q_X7_, Q_X21_, Q_X32_, Q_X40_, Q_X48_, Q_X53_, Q_X58_, Q_X63_, Q_X68_, fun h0_ => absurd ((hoff 73 (by kernel_rfl)).symm.trans h0_) (by decide), Q_X81_, fun h0_ => absurd ((hoff 83 (by kernel_rfl)).symm.trans h0_) (by decide)⟩
    refine steps_cons ?_ ?_
    · rintro b a w' ⟨v13, v27, v38, v46, v54, v59, v64, v69, v74, v79, v87, v89, m7_, m21_, m32_, m40_, m48_, m53_, m58_, m63_, m68_, m73_, m81_, m83_, ha, Q_HB, Q_F13, Q_F27, Q_F38, Q_F46, Q_F54, Q_F59, Q_F64, Q_F69, Q_F74, Q_F79, Q_F87, Q_FZ, Q_X7_, Q_X21_, Q_X32_, Q_X40_, Q_X48_, Q_X53_, Q_X58_, Q_X63_, Q_X68_, Q_X73_, Q_X81_, Q_X83_⟩ hb_ hon hoff
      refine ⟨_, rfl, fun K hK => ?_⟩
      have e79 : a.tmps[79]? = some (v79) := by rw [ha]; exact putSel_on (e := (72, 79, v79)) 18 rfl rfl (hon 72 (by kernel_rfl)) rfl
      replace ha := Aside0.mk ha
      have HB := Aside0.mk Q_HB
      have F79 := Aside0.mk (Q_F79 (hon 72 (by kernel_rfl)))
      obtain ⟨A0_, c0_, hv_⟩ := Kd.R_slice F79.out
      subst hv_
      refine value_ (w1 := w') (v := .agg #[.string ⟨#[116, 105, 99, 107]⟩, .int .i64 5, .int .i64 0, (.slice A0_ ([9] : List Nat).length c0_)]) (by rfl) rfl ?_ ?_
      · go_simp
        (try simp only [i64_w])
        try rfl
      refine hK.out _ _ ⟨v13, v27, v38, v46, v54, v59, v64, v69, v74, (.slice A0_ ([9] : List Nat).length c0_), v87, v89, m7_, m21_, m32_, m40_, m48_, m53_, m58_, m63_, m68_, (.agg #[.string ⟨#[116, 105, 99, 107]⟩, .int .i64 5, .int .i64 0, (.slice A0_ ([9] : List Nat).length c0_)]), m81_, m83_, (by rw [ha.out]; exact putSel_upk 19 hb_ rfl rfl rfl), Q_HB, Q_F13, Q_F27, Q_F38, Q_F46, Q_F54, Q_F59, Q_F64, Q_F69, Q_F74, Q_F79, Q_F87, fun h0_ => absurd ((hoff 82 (by kernel_rfl)).symm.trans h0_) (by decide), Q_X7_, Q_X21_, Q_X32_, Q_X40_, Q_X48_, Q_X53_, Q_X58_, Q_X63_, Q_X68_, fun _ => rfl, Q_X81_, fun h0_ => absurd ((hoff 83 (by kernel_rfl)).symm.trans h0_) (by decide)⟩
    refine steps_cons ?_ ?_
    · rintro b a w' ⟨v13, v27, v38, v46, v54, v59, v64, v69, v74, v79, v87, v89, m7_, m21_, m32_, m40_, m48_, m53_, m58_, m63_, m68_, m73_, m81_, m83_, ha, Q_HB, Q_F13, Q_F27, Q_F38, Q_F46, Q_F54, Q_F59, Q_F64, Q_F69, Q_F74, Q_F79, Q_F87, Q_FZ, Q_X7_, Q_X21_, Q_X32_, Q_X40_, Q_X48_, Q_X53_, Q_X58_, Q_X63_, Q_X68_, Q_X73_, Q_X81_, Q_X83_⟩ hb_ hon hoff
      refine ⟨_, rfl, fun K hK => ?_⟩
      have e83 : a.tmps[83]? = some (.pointer (some ⟨B, 9, none⟩)) := by rw [ha]; exact (putSel_off rfl).trans rfl
      have e86 : a.tmps[86]? = some (.pointer (some ⟨B, 10, none⟩)) := by rw [ha]; exact (putSel_off rfl).trans rfl
      replace ha := Aside0.mk ha
      have HB := Aside0.mk Q_HB
      refine Kd.R_lit_step (kPtr B) _ 52 ?hg (N := 87) ?hd (xs := ([9, 10] : List Nat)) (inner := [.pointer (some ⟨B, 9, none⟩), .pointer (some ⟨B, 10, none⟩)]) (ok := fun _ => True) (okp := fun _ => True) ?hr ?hp (fun _ hk => hk) trivial HB.out (below_size HB.out) (by decide) ?_; (case hd => rfl); (case hg => rfl); (case hr => first | (go_simp; done) | (go_simp; rfl)); (case hp => exact (Reps.one (show Kd.M (kPtr B) _ _ _ 9 [.pointer (some ⟨B, 9, none⟩)] from rfl) (Reps.one (show Kd.M (kPtr B) _ _ _ 10 [.pointer (some ⟨B, 10, none⟩)] from rfl) (Reps.none _ _))))
      intro v9_ w9_ ho_ hb_2 hg_ hnew_
      refine hK.out _ _ ⟨v13, v27, v38, v46, v54, v59, v64, v69, v74, v79, v9_, v89, m7_, m21_, m32_, m40_, m48_, m53_, m58_, m63_, m68_, m73_, m81_, m83_, (by rw [ha.out]; exact putSel_upk 20 hb_ rfl rfl rfl), hb_2, fun h0_ => Kd.R_grown (Q_F13 h0_) hg_ (fun _ _ h => by cases h), fun h0_ => Kd.R_grown (Q_F27 h0_) hg_ (fun _ _ h => by cases h), fun h0_ => Kd.R_grown (Q_F38 h0_) hg_ (fun _ _ h => by cases h), fun h0_ => Kd.R_grown (Q_F46 h0_) hg_ (fun _ _ h => by cases h), fun h0_ => Kd.R_grown (Q_F54 h0_) hg_ (fun _ _ h => by cases h), fun h0_ => Kd.R_grown (Q_F59 h0_) hg_ (fun _ _ h => by cases h), fun h0_ => Kd.R_grown (Q_F64 h0_) hg_ (fun _ _ h => by cases h), fun h0_ => Kd.R_grown (Q_F69 h0_) hg_ (fun _ _ h => by cases h), fun h0_ => Kd.R_grown (Q_F74 h0_) hg_ (fun _ _ h => by cases h), fun h0_ => Kd.R_grown (Q_F79 h0_) hg_ (fun _ _ h => by cases h), fun _ => ho_, fun h0_ => absurd ((hoff 82 (by kernel_rfl)).symm.trans h0_) (by decide), Q_X7_, Q_X21_, Q_X32_, Q_X40_, Q_X48_, Q_X53_, Q_X58_, Q_X63_, Q_X68_, Q_X73_, fun h0_ => absurd ((hoff 81 (by kernel_rfl)).symm.trans h0_) (by decide), fun h0_ => absurd ((hoff 83 (by kernel_rfl)).symm.trans h0_) (by decide)⟩
    refine steps_cons ?_ ?_
    · rintro b a w' ⟨v13, v27, v38, v46, v54, v59, v64, v69, v74, v79, v87, v89, m7_, m21_, m32_, m40_, m48_, m53_, m58_, m63_, m68_, m73_, m81_, m83_, ha, Q_HB, Q_F13, Q_F27, Q_F38, Q_F46, Q_F54, Q_F59, Q_F64, Q_F69, Q_F74, Q_F79, Q_F87, Q_FZ, Q_X7_, Q_X21_, Q_X32_, Q_X40_, Q_X48_, Q_X53_, Q_X58_, Q_X63_, Q_X68_, Q_X73_, Q_X81_, Q_X83_⟩ hb_ hon hoff
      refine ⟨_, rfl, fun K hK => ?_⟩
      have e87 : a.tmps[87]? = some (v87) := by rw [ha]; exact putSel_on (e := (80, 87, v87)) 20 rfl rfl (hon 80 (by kernel_rfl)) rfl
      replace ha := Aside0.mk ha
      have HB := Aside0.mk Q_HB
      have F87 := Aside0.mk (Q_F87 (hon 80 (by kernel_rfl)))
      obtain ⟨A0_, c0_, hv_⟩ := Kd.R_slice F87.out
      subst hv_
      refine value_ (w1 := w') (v := .agg #[.string ⟨#[102, 97, 108, 108]⟩, .int .i64 7, .int .i64 0, (.slice A0_ ([9, 10] : List Nat).length c0_)]) (by rfl) rfl ?_ ?_
      · go_simp
        (try simp only [i64_w])
        try rfl
      refine hK.out _ _ ⟨v13, v27, v38, v46, v54, v59, v64, v69, v74, v79, (.slice A0_ ([9, 10] : List Nat).length c0_), v89, m7_, m21_, m32_, m40_, m48_, m53_, m58_, m63_, m68_, m73_, (.agg #[.string ⟨#[102, 97, 108, 108]⟩, .int .i64 7, .int .i64 0, (.slice A0_ ([9, 10] : List Nat).length c0_)]), m83_, (by rw [ha.out]; exact putSel_upk 21 hb_ rfl rfl rfl), Q_HB, Q_F13, Q_F27, Q_F38, Q_F46, Q_F54, Q_F59, Q_F64, Q_F69, Q_F74, Q_F79, Q_F87, fun h0_ => absurd ((hoff 82 (by kernel_rfl)).symm.trans h0_) (by decide), Q_X7_, Q_X21_, Q_X32_, Q_X40_, Q_X48_, Q_X53_, Q_X58_, Q_X63_, Q_X68_, Q_X73_, fun _ => rfl, fun h0_ => absurd ((hoff 83 (by kernel_rfl)).symm.trans h0_) (by decide)⟩
    refine steps_cons ?_ ?_
    · rintro b a w' ⟨v13, v27, v38, v46, v54, v59, v64, v69, v74, v79, v87, v89, m7_, m21_, m32_, m40_, m48_, m53_, m58_, m63_, m68_, m73_, m81_, m83_, ha, Q_HB, Q_F13, Q_F27, Q_F38, Q_F46, Q_F54, Q_F59, Q_F64, Q_F69, Q_F74, Q_F79, Q_F87, Q_FZ, Q_X7_, Q_X21_, Q_X32_, Q_X40_, Q_X48_, Q_X53_, Q_X58_, Q_X63_, Q_X68_, Q_X73_, Q_X81_, Q_X83_⟩ hb_ hon hoff
      refine ⟨_, rfl, fun K hK => ?_⟩
      have e14 : a.tmps[14]? = some (m7_) := by rw [ha]; exact putSel_on (e := (7, 14, m7_)) 1 rfl rfl (hon 7 (by kernel_rfl)) rfl
      rw [Q_X7_ (hon 7 (by kernel_rfl))] at e14
      have e28 : a.tmps[28]? = some (m21_) := by rw [ha]; exact putSel_on (e := (21, 28, m21_)) 3 rfl rfl (hon 21 (by kernel_rfl)) rfl
      rw [Q_X21_ (hon 21 (by kernel_rfl))] at e28
      have e39 : a.tmps[39]? = some (m32_) := by rw [ha]; exact putSel_on (e := (32, 39, m32_)) 5 rfl rfl (hon 32 (by kernel_rfl)) rfl
      rw [Q_X32_ (hon 32 (by kernel_rfl))] at e39
      have e47 : a.tmps[47]? = some (m40_) := by rw [ha]; exact putSel_on (e := (40, 47, m40_)) 7 rfl rfl (hon 40 (by kernel_rfl)) rfl
      rw [Q_X40_ (hon 40 (by kernel_rfl))] at e47
      have e55 : a.tmps[55]? = some (m48_) := by rw [ha]; exact putSel_on (e := (48, 55, m48_)) 9 rfl rfl (hon 48 (by kernel_rfl)) rfl
      rw [Q_X48_ (hon 48 (by kernel_rfl))] at e55
      have e60 : a.tmps[60]? = some (m53_) := by rw [ha]; exact putSel_on (e := (53, 60, m53_)) 11 rfl rfl (hon 53 (by kernel_rfl)) rfl
      rw [Q_X53_ (hon 53 (by kernel_rfl))] at e60
      have e65 : a.tmps[65]? = some (m58_) := by rw [ha]; exact putSel_on (e := (58, 65, m58_)) 13 rfl rfl (hon 58 (by kernel_rfl)) rfl
      rw [Q_X58_ (hon 58 (by kernel_rfl))] at e65
      have e70 : a.tmps[70]? = some (m63_) := by rw [ha]; exact putSel_on (e := (63, 70, m63_)) 15 rfl rfl (hon 63 (by kernel_rfl)) rfl
      rw [Q_X63_ (hon 63 (by kernel_rfl))] at e70
      have e75 : a.tmps[75]? = some (m68_) := by rw [ha]; exact putSel_on (e := (68, 75, m68_)) 17 rfl rfl (hon 68 (by kernel_rfl)) rfl
      rw [Q_X68_ (hon 68 (by kernel_rfl))] at e75
      have e80 : a.tmps[80]? = some (m73_) := by rw [ha]; exact putSel_on (e := (73, 80, m73_)) 19 rfl rfl (hon 73 (by kernel_rfl)) rfl
      rw [Q_X73_ (hon 73 (by kernel_rfl))] at e80
      have e88 : a.tmps[88]? = some (m81_) := by rw [ha]; exact putSel_on (e := (81, 88, m81_)) 21 rfl rfl (hon 81 (by kernel_rfl)) rfl
      rw [Q_X81_ (hon 81 (by kernel_rfl))] at e88
      replace ha := Aside0.mk ha
      have HB := Aside0.mk Q_HB
      have F13 := Aside0.mk (Q_F13 (hon 6 (by kernel_rfl)))
      have F27 := Aside0.mk (Q_F27 (hon 20 (by kernel_rfl)))
      have F38 := Aside0.mk (Q_F38 (hon 31 (by kernel_rfl)))
      have F46 := Aside0.mk (Q_F46 (hon 39 (by kernel_rfl)))
      have F54 := Aside0.mk (Q_F54 (hon 47 (by kernel_rfl)))
      have F59 := Aside0.mk (Q_F59 (hon 52 (by kernel_rfl)))
      have F64 := Aside0.mk (Q_F64 (hon 57 (by kernel_rfl)))
      have F69 := Aside0.mk (Q_F69 (hon 62 (by kernel_rfl)))
      have F74 := Aside0.mk (Q_F74 (hon 67 (by kernel_rfl)))
      have F79 := Aside0.mk (Q_F79 (hon 72 (by kernel_rfl)))
      have F87 := Aside0.mk (Q_F87 (hon 80 (by kernel_rfl)))
      obtain ⟨A13_, c13_, hv_⟩ := Kd.R_slice F13.out; subst hv_
      obtain ⟨A27_, c27_, hv_⟩ := Kd.R_slice F27.out; subst hv_
      obtain ⟨A38_, c38_, hv_⟩ := Kd.R_slice F38.out; subst hv_
      obtain ⟨A46_, c46_, hv_⟩ := Kd.R_slice F46.out; subst hv_
      obtain ⟨A54_, c54_, hv_⟩ := Kd.R_slice F54.out; subst hv_
      obtain ⟨A59_, c59_, hv_⟩ := Kd.R_slice F59.out; subst hv_
      obtain ⟨A64_, c64_, hv_⟩ := Kd.R_slice F64.out; subst hv_
      obtain ⟨A69_, c69_, hv_⟩ := Kd.R_slice F69.out; subst hv_
      obtain ⟨A74_, c74_, hv_⟩ := Kd.R_slice F74.out; subst hv_
      obtain ⟨A79_, c79_, hv_⟩ := Kd.R_slice F79.out; subst hv_
      obtain ⟨A87_, c87_, hv_⟩ := Kd.R_slice F87.out; subst hv_
      refine Kd.R_lit_step (kMan B) _ 50 ?hg (N := 89) ?hd (xs := manners) (inner := [.string ⟨#[105, 110]⟩, .int .i64 1, .int .i64 1, (.slice A13_ ([2, 3] : List Nat).length c13_), .string ⟨#[108, 101, 116]⟩, .int .i64 1, .int .i64 2, (.slice A27_ ([2, 3, 4, 5] : List Nat).length c27_), .string ⟨#[116, 114, 97, 100, 101]⟩, .int .i64 1, .int .i64 3, (.slice A38_ ([4, 5, 6] : List Nat).length c38_), .string ⟨#[110, 101, 120, 116]⟩, .int .i64 1, .int .i64 4, (.slice A46_ ([6, 7] : List Nat).length c46_), .string ⟨#[111, 117, 116]⟩, .int .i64 1, .int .i64 5, (.slice A54_ ([2, 3] : List Nat).length c54_), .string ⟨#[104, 101, 97, 114]⟩, .int .i64 2, .int .i64 0, (.slice A59_ ([8] : List Nat).length c59_), .string ⟨#[108, 111, 115, 101]⟩, .int .i64 3, .int .i64 0, (.slice A64_ ([8] : List Nat).length c64_), .string ⟨#[116, 119, 105, 99, 101]⟩, .int .i64 4, .int .i64 0, (.slice A69_ ([8] : List Nat).length c69_), .string ⟨#[103, 105, 118, 101]⟩, .int .i64 6, .int .i64 0, (.slice A74_ ([8] : List Nat).length c74_), .string ⟨#[116, 105, 99, 107]⟩, .int .i64 5, .int .i64 0, (.slice A79_ ([9] : List Nat).length c79_), .string ⟨#[102, 97, 108, 108]⟩, .int .i64 7, .int .i64 0, (.slice A87_ ([9, 10] : List Nat).length c87_)]) (ok := fun _ => True) (okp := fun _ => True) ?hr ?hp (fun _ hk => hk) trivial HB.out (below_size HB.out) (by decide) ?_; (case hd => rfl); (case hg => rfl); (case hr => first | (go_simp; done) | (go_simp; rfl)); (case hp => exact (Reps.c4 (kMan_mk (m := ⟨⟨#[105, 110]⟩, 1, 1, [2, 3]⟩) F13.out) (Reps.c4 (kMan_mk (m := ⟨⟨#[108, 101, 116]⟩, 1, 2, [2, 3, 4, 5]⟩) F27.out) (Reps.c4 (kMan_mk (m := ⟨⟨#[116, 114, 97, 100, 101]⟩, 1, 3, [4, 5, 6]⟩) F38.out) (Reps.c4 (kMan_mk (m := ⟨⟨#[110, 101, 120, 116]⟩, 1, 4, [6, 7]⟩) F46.out) (Reps.c4 (kMan_mk (m := ⟨⟨#[111, 117, 116]⟩, 1, 5, [2, 3]⟩) F54.out) (Reps.c4 (kMan_mk (m := ⟨⟨#[104, 101, 97, 114]⟩, 2, 0, [8]⟩) F59.out) (Reps.c4 (kMan_mk (m := ⟨⟨#[108, 111, 115, 101]⟩, 3, 0, [8]⟩) F64.out) (Reps.c4 (kMan_mk (m := ⟨⟨#[116, 119, 105, 99, 101]⟩, 4, 0, [8]⟩) F69.out) (Reps.c4 (kMan_mk (m := ⟨⟨#[103, 105, 118, 101]⟩, 6, 0, [8]⟩) F74.out) (Reps.c4 (kMan_mk (m := ⟨⟨#[116, 105, 99, 107]⟩, 5, 0, [9]⟩) F79.out) (Reps.c4 (kMan_mk (m := ⟨⟨#[102, 97, 108, 108]⟩, 7, 0, [9, 10]⟩) F87.out) (Reps.none _ _)))))))))))))
      intro v9_ w9_ ho_ hb_2 hg_ hnew_
      refine hK.out _ _ ⟨(.slice A13_ ([2, 3] : List Nat).length c13_), (.slice A27_ ([2, 3, 4, 5] : List Nat).length c27_), (.slice A38_ ([4, 5, 6] : List Nat).length c38_), (.slice A46_ ([6, 7] : List Nat).length c46_), (.slice A54_ ([2, 3] : List Nat).length c54_), (.slice A59_ ([8] : List Nat).length c59_), (.slice A64_ ([8] : List Nat).length c64_), (.slice A69_ ([8] : List Nat).length c69_), (.slice A74_ ([8] : List Nat).length c74_), (.slice A79_ ([9] : List Nat).length c79_), (.slice A87_ ([9, 10] : List Nat).length c87_), v9_, m7_, m21_, m32_, m40_, m48_, m53_, m58_, m63_, m68_, m73_, m81_, m83_, (by rw [ha.out]; exact putSel_upk 22 hb_ rfl rfl rfl), hb_2, fun _ => Kd.R_grown F13.out hg_ (fun _ _ h => by cases h), fun _ => Kd.R_grown F27.out hg_ (fun _ _ h => by cases h), fun _ => Kd.R_grown F38.out hg_ (fun _ _ h => by cases h), fun _ => Kd.R_grown F46.out hg_ (fun _ _ h => by cases h), fun _ => Kd.R_grown F54.out hg_ (fun _ _ h => by cases h), fun _ => Kd.R_grown F59.out hg_ (fun _ _ h => by cases h), fun _ => Kd.R_grown F64.out hg_ (fun _ _ h => by cases h), fun _ => Kd.R_grown F69.out hg_ (fun _ _ h => by cases h), fun _ => Kd.R_grown F74.out hg_ (fun _ _ h => by cases h), fun _ => Kd.R_grown F79.out hg_ (fun _ _ h => by cases h), fun _ => Kd.R_grown F87.out hg_ (fun _ _ h => by cases h), fun _ => ho_, Q_X7_, Q_X21_, Q_X32_, Q_X40_, Q_X48_, Q_X53_, Q_X58_, Q_X63_, Q_X68_, Q_X73_, Q_X81_, fun h0_ => absurd ((hoff 83 (by kernel_rfl)).symm.trans h0_) (by decide)⟩
    refine steps_cons ?_ ?_
    · rintro b a w' ⟨v13, v27, v38, v46, v54, v59, v64, v69, v74, v79, v87, v89, m7_, m21_, m32_, m40_, m48_, m53_, m58_, m63_, m68_, m73_, m81_, m83_, ha, Q_HB, Q_F13, Q_F27, Q_F38, Q_F46, Q_F54, Q_F59, Q_F64, Q_F69, Q_F74, Q_F79, Q_F87, Q_FZ, Q_X7_, Q_X21_, Q_X32_, Q_X40_, Q_X48_, Q_X53_, Q_X58_, Q_X63_, Q_X68_, Q_X73_, Q_X81_, Q_X83_⟩ hb_ hon hoff
      refine ⟨_, rfl, fun K hK => ?_⟩
      have e89 : a.tmps[89]? = some (v89) := by rw [ha]; exact putSel_on (e := (82, 89, v89)) 22 rfl rfl (hon 82 (by kernel_rfl)) rfl
      replace ha := Aside0.mk ha
      have HB := Aside0.mk Q_HB
      have F13 := Aside0.mk (Q_F13 (hon 6 (by kernel_rfl)))
      have F27 := Aside0.mk (Q_F27 (hon 20 (by kernel_rfl)))
      have F38 := Aside0.mk (Q_F38 (hon 31 (by kernel_rfl)))
      have F46 := Aside0.mk (Q_F46 (hon 39 (by kernel_rfl)))
      have F54 := Aside0.mk (Q_F54 (hon 47 (by kernel_rfl)))
      have F59 := Aside0.mk (Q_F59 (hon 52 (by kernel_rfl)))
      have F64 := Aside0.mk (Q_F64 (hon 57 (by kernel_rfl)))
      have F69 := Aside0.mk (Q_F69 (hon 62 (by kernel_rfl)))
      have F74 := Aside0.mk (Q_F74 (hon 67 (by kernel_rfl)))
      have F79 := Aside0.mk (Q_F79 (hon 72 (by kernel_rfl)))
      have F87 := Aside0.mk (Q_F87 (hon 80 (by kernel_rfl)))
      have FZ := Aside0.mk (Q_FZ (hon 82 (by kernel_rfl)))
      refine value_ (w1 := w') (v := v89) (by rfl) rfl ?_ ?_
      · go_simp
        (try simp only [i64_w])
        try rfl
      refine hK.out _ _ ⟨v13, v27, v38, v46, v54, v59, v64, v69, v74, v79, v87, v89, m7_, m21_, m32_, m40_, m48_, m53_, m58_, m63_, m68_, m73_, m81_, (v89), (by rw [ha.out]; exact putSel_upk 23 hb_ rfl rfl rfl), Q_HB, Q_F13, Q_F27, Q_F38, Q_F46, Q_F54, Q_F59, Q_F64, Q_F69, Q_F74, Q_F79, Q_F87, Q_FZ, Q_X7_, Q_X21_, Q_X32_, Q_X40_, Q_X48_, Q_X53_, Q_X58_, Q_X63_, Q_X68_, Q_X73_, Q_X81_, fun _ => rfl⟩
    exact steps_nil
  · rintro b a w' hall ⟨v13, v27, v38, v46, v54, v59, v64, v69, v74, v79, v87, v89, m7_, m21_, m32_, m40_, m48_, m53_, m58_, m63_, m68_, m73_, m81_, m83_, ha, Q_HB, Q_F13, Q_F27, Q_F38, Q_F46, Q_F54, Q_F59, Q_F64, Q_F69, Q_F74, Q_F79, Q_F87, Q_FZ, Q_X7_, Q_X21_, Q_X32_, Q_X40_, Q_X48_, Q_X53_, Q_X58_, Q_X63_, Q_X68_, Q_X73_, Q_X81_, Q_X83_⟩
    clear HB
    have hb6_ := hall 6 (by kernel_rfl)
    have hb7_ := hall 7 (by kernel_rfl)
    have hb20_ := hall 20 (by kernel_rfl)
    have hb21_ := hall 21 (by kernel_rfl)
    have hb31_ := hall 31 (by kernel_rfl)
    have hb32_ := hall 32 (by kernel_rfl)
    have hb39_ := hall 39 (by kernel_rfl)
    have hb40_ := hall 40 (by kernel_rfl)
    have hb47_ := hall 47 (by kernel_rfl)
    have hb48_ := hall 48 (by kernel_rfl)
    have hb52_ := hall 52 (by kernel_rfl)
    have hb53_ := hall 53 (by kernel_rfl)
    have hb57_ := hall 57 (by kernel_rfl)
    have hb58_ := hall 58 (by kernel_rfl)
    have hb62_ := hall 62 (by kernel_rfl)
    have hb63_ := hall 63 (by kernel_rfl)
    have hb67_ := hall 67 (by kernel_rfl)
    have hb68_ := hall 68 (by kernel_rfl)
    have hb72_ := hall 72 (by kernel_rfl)
    have hb73_ := hall 73 (by kernel_rfl)
    have hb80_ := hall 80 (by kernel_rfl)
    have hb81_ := hall 81 (by kernel_rfl)
    have hb82_ := hall 82 (by kernel_rfl)
    have hb83_ := hall 83 (by kernel_rfl)
    subst ha
    obtain rfl := Q_X7_ hb7_
    obtain rfl := Q_X21_ hb21_
    obtain rfl := Q_X32_ hb32_
    obtain rfl := Q_X40_ hb40_
    obtain rfl := Q_X48_ hb48_
    obtain rfl := Q_X53_ hb53_
    obtain rfl := Q_X58_ hb58_
    obtain rfl := Q_X63_ hb63_
    obtain rfl := Q_X68_ hb68_
    obtain rfl := Q_X73_ hb73_
    obtain rfl := Q_X81_ hb81_
    obtain rfl := Q_X83_ hb83_
    simp only [putSel, hb6_, hb7_, hb20_, hb21_, hb31_, hb32_, hb39_, hb40_, hb47_, hb48_, hb52_, hb53_, hb57_, hb58_, hb62_, hb63_, hb67_, hb68_, hb72_, hb73_, hb80_, hb81_, hb82_, hb83_, if_true, Act.put, List.setIfInBounds_toArray, List.set_cons_zero, List.set_cons_succ]
    have HB := Aside0.mk Q_HB
    clear Q_HB
    have F13 := Aside0.mk (Q_F13 hb6_)
    clear Q_F13
    have F27 := Aside0.mk (Q_F27 hb20_)
    clear Q_F27
    have F38 := Aside0.mk (Q_F38 hb31_)
    clear Q_F38
    have F46 := Aside0.mk (Q_F46 hb39_)
    clear Q_F46
    have F54 := Aside0.mk (Q_F54 hb47_)
    clear Q_F54
    have F59 := Aside0.mk (Q_F59 hb52_)
    clear Q_F59
    have F64 := Aside0.mk (Q_F64 hb57_)
    clear Q_F64
    have F69 := Aside0.mk (Q_F69 hb62_)
    clear Q_F69
    have F74 := Aside0.mk (Q_F74 hb67_)
    clear Q_F74
    have F79 := Aside0.mk (Q_F79 hb72_)
    clear Q_F79
    have F87 := Aside0.mk (Q_F87 hb80_)
    clear Q_F87
    have FZ := Aside0.mk (Q_FZ hb82_)
    clear Q_FZ
    clear hall hb6_ hb7_ hb20_ hb21_ hb31_ hb32_ hb39_ hb40_ hb47_ hb48_ hb52_ hb53_ hb57_ hb58_ hb62_ hb63_ hb67_ hb68_ hb72_ hb73_ hb80_ hb81_ hb82_ hb83_
    have HZ := FZ.out
    have HBB := HB.out
    go_wp2
    go_ret
    exact ⟨_, rfl, HZ, HBB⟩
end Go.Proofs.YtaeifbmdjjmgkaaDoor
