/- ConsoleSums walked. -/
import Derived.Test.YteigigepmoicaaaGreatDoorCon28
import Derived.Test.YteigigepmoicaaaGreatDoorCon19
import Derived.Test.YteigigepmoicaaaGreatDoorCon21
namespace Go.Proofs.YteigigepmoicaaaGreatDoor
open Go.RowKit Go.Crc
set_option linter.unusedVariables false
set_option linter.unusedSimpArgs false
theorem cat_fcs (d : List UInt8) : (⟨#[102, 99, 115, 32]⟩ : ByteArray) ++ bytesOf (hexM d) = bytesOf (joinW [nFcs, hexM d]) := by
  apply ba_ext
  simp [bytesOf, joinW, nFcs]
theorem cat_md5 (d : List UInt8) : (⟨#[109, 100, 53, 32]⟩ : ByteArray) ++ bytesOf (hexM d) = bytesOf (joinW [nMd5, hexM d]) := by
  apply ba_ext
  simp [bytesOf, joinW, nMd5]
theorem join2_len (a b : List UInt8) : (joinW [a, b]).length = a.length + b.length + 1 := by simp [joinW]; omega
theorem beq_same (b : ByteArray) : (b.toList == b.toList) = true := beq_self_eq_true _
set_option maxRecDepth 100000 in
set_option maxHeartbeats 4000000 in
theorem lsums_short (a0 : ByteArray) (ml : Int) (w : World) (h : a0.size ≤ 300) (ht : TabW w) (hm : MaxLenIs w ml) :
    Calls Tryz.prog 7 #[.string a0] w fun e w' => e = .returned (.bool true) ∧ Below w.heap.size w w' := by
  have haw := fun w ht hm => awake28_any ml w ht hm
  have hk : ¬ (300 : Int) < a0.size := by omega
  have hDs : a0.size ≤ 300 := h
  obtain ⟨D, hD⟩ : ∃ D, a0 = D := ⟨_, rfl⟩
  rw [hD] at hk hDs ⊢
  clear hD
  have hx := fun w => lhex_any D w (by omega)
  have hf := fun w => rfcs_any D w (by unfold maxLen; omega)
  have h5 := fun w => rmd5_any D w (by omega)
  have hyl : D.data.toList.length = D.size := len_toList D
  obtain ⟨y, hy⟩ : ∃ y, D.data.toList = y := ⟨_, rfl⟩
  rw [hy] at hx hf h5 hyl
  have hfl := fcs_lt y
  have hdc := fun w => decimal_any (fcs y) (by omega) (by omega) w
  have hh5 := fun w => lhex_any (bytesOf (md5M y)) w (by rw [bytesOf_size]; show 2 * 16 ≤ _; decide)
  rw [show (bytesOf (md5M y)).data.toList = md5M y from rfl] at hh5
  have c1 := cat_fcs y
  have c2 := cat_md5 y
  have l1 := join2_len nFcs (hexM y)
  have l2 := join2_len nMd5 (hexM y)
  have n1 : nFcs.length = 3 := rfl
  have n2 : nMd5.length = 3 := rfl
  have hl := hexM_len y
  have q1 := fun w ht hm => one_any (bytesOf (joinW [nFcs, hexM y])) _ ml w (by rw [bytesOf_size]; omega) (run_fcs y) ht hm
  have q2 := fun w ht hm => one_any (bytesOf (joinW [nMd5, hexM y])) _ ml w (by rw [bytesOf_size]; omega) (run_md5 y) ht hm
  have z1 : (bytesOf (hexM y)).size ≤ 700 := by rw [bytesOf_size]; omega
  obtain ⟨X, hX⟩ : ∃ X, bytesOf (hexM y) = X := ⟨_, rfl⟩
  obtain ⟨J1, hJ1⟩ : ∃ X, bytesOf (joinW [nFcs, hexM y]) = X := ⟨_, rfl⟩
  obtain ⟨J2, hJ2⟩ : ∃ X, bytesOf (joinW [nMd5, hexM y]) = X := ⟨_, rfl⟩
  obtain ⟨F, hF⟩ : ∃ F, fcs y = F := ⟨_, rfl⟩
  obtain ⟨M, hM⟩ : ∃ M, bytesOf (md5M y) = M := ⟨_, rfl⟩
  obtain ⟨HM, hHM⟩ : ∃ M, bytesOf (hexM (md5M y)) = M := ⟨_, rfl⟩
  rw [hX] at hx c1 c2 z1
  rw [hJ1] at c1 q1
  rw [hJ2] at c2 q2
  rw [hF] at hf q1 hdc
  rw [hM] at h5 hh5
  rw [hHM] at hh5 q2
  obtain ⟨IF, hIF⟩ : ∃ F', bytesOf (itoaM F) = F' := ⟨_, rfl⟩
  rw [hIF] at q1 hdc
  have b1 := beq_same IF
  have b2 := beq_same HM
  have C1 := Lib.hid c1
  have C2 := Lib.hid c2
  have g1 : ¬ 9223372036854775807 < 4 + X.size := by omega
  clear c1 c2 l1 l2 n1 n2 hl hX hJ1 hJ2 hF hM hHM hIF hfl hy hyl
  go_enter Tryz.func7, Tryz.ntmps7
  go_wp2_with fail
  refine (haw _ ht hm).mono ?_
  rintro e w1 ⟨rfl, hb1⟩
  go_wp2_with fail
  refine (hx _).mono ?_
  rintro e w2 ⟨rfl, hb2⟩
  have hB2 := seqB hb1 hb2
  go_wp2_with fail
  rw [C1.out]
  refine (q1 _ (ht.below hB2) (hm.below hB2)).mono ?_
  rintro e w3 ⟨rfl, hb3⟩
  have hB3 := seqB hB2 hb3
  go_wp2_with fail
  refine (hf _).mono ?_
  rintro e w4 ⟨rfl, rfl⟩
  go_wp2_with fail
  refine (hdc _).mono ?_
  rintro e w5 ⟨rfl, hb5⟩
  have hB5 := seqB hB3 hb5
  go_wp2_with fail
  refine (hx _).mono ?_
  rintro e w6 ⟨rfl, hb6⟩
  have hB6 := seqB hB5 hb6
  go_wp2_with fail
  rw [C2.out]
  refine (q2 _ (ht.below hB6) (hm.below hB6)).mono ?_
  rintro e w7 ⟨rfl, hb7⟩
  have hB7 := seqB hB6 hb7
  go_wp2_with fail
  refine (h5 _).mono ?_
  rintro e w8 ⟨rfl, hb8⟩
  have hB8 := seqB hB7 hb8
  go_wp2_with fail
  refine (hh5 _).mono ?_
  rintro e w9 ⟨rfl, hb9⟩
  go_wp2_with fail
  go_ret
  exact ⟨rfl, seqB hB8 hb9⟩
set_option maxRecDepth 100000 in
set_option maxHeartbeats 4000000 in
theorem lsums_long (a0 : ByteArray) (ml : Int) (w : World) (h : 300 < a0.size) (ht : TabW w) (hm : MaxLenIs w ml) :
    Calls Tryz.prog 7 #[.string a0] w fun e w' => e = .returned (.bool true) ∧ Below w.heap.size w w' := by
  have haw := fun w ht hm => awake28_any ml w ht hm
  have hk : (300 : Int) < a0.size := by omega
  have hDs : (a0.extract 0 300).size ≤ 300 := by rw [prefix_size _ _ (by omega)]; exact Nat.le_refl _
  obtain ⟨D, hD⟩ : ∃ D, a0.extract 0 300 = D := ⟨_, rfl⟩
  rw [hD] at hDs
  have HD := Lib.hid hD
  clear hD
  have hx := fun w => lhex_any D w (by omega)
  have hf := fun w => rfcs_any D w (by unfold maxLen; omega)
  have h5 := fun w => rmd5_any D w (by omega)
  have hyl : D.data.toList.length = D.size := len_toList D
  obtain ⟨y, hy⟩ : ∃ y, D.data.toList = y := ⟨_, rfl⟩
  rw [hy] at hx hf h5 hyl
  have hfl := fcs_lt y
  have hdc := fun w => decimal_any (fcs y) (by omega) (by omega) w
  have hh5 := fun w => lhex_any (bytesOf (md5M y)) w (by rw [bytesOf_size]; show 2 * 16 ≤ _; decide)
  rw [show (bytesOf (md5M y)).data.toList = md5M y from rfl] at hh5
  have c1 := cat_fcs y
  have c2 := cat_md5 y
  have l1 := join2_len nFcs (hexM y)
  have l2 := join2_len nMd5 (hexM y)
  have n1 : nFcs.length = 3 := rfl
  have n2 : nMd5.length = 3 := rfl
  have hl := hexM_len y
  have q1 := fun w ht hm => one_any (bytesOf (joinW [nFcs, hexM y])) _ ml w (by rw [bytesOf_size]; omega) (run_fcs y) ht hm
  have q2 := fun w ht hm => one_any (bytesOf (joinW [nMd5, hexM y])) _ ml w (by rw [bytesOf_size]; omega) (run_md5 y) ht hm
  have z1 : (bytesOf (hexM y)).size ≤ 700 := by rw [bytesOf_size]; omega
  obtain ⟨X, hX⟩ : ∃ X, bytesOf (hexM y) = X := ⟨_, rfl⟩
  obtain ⟨J1, hJ1⟩ : ∃ X, bytesOf (joinW [nFcs, hexM y]) = X := ⟨_, rfl⟩
  obtain ⟨J2, hJ2⟩ : ∃ X, bytesOf (joinW [nMd5, hexM y]) = X := ⟨_, rfl⟩
  obtain ⟨F, hF⟩ : ∃ F, fcs y = F := ⟨_, rfl⟩
  obtain ⟨M, hM⟩ : ∃ M, bytesOf (md5M y) = M := ⟨_, rfl⟩
  obtain ⟨HM, hHM⟩ : ∃ M, bytesOf (hexM (md5M y)) = M := ⟨_, rfl⟩
  rw [hX] at hx c1 c2 z1
  rw [hJ1] at c1 q1
  rw [hJ2] at c2 q2
  rw [hF] at hf q1 hdc
  rw [hM] at h5 hh5
  rw [hHM] at hh5 q2
  obtain ⟨IF, hIF⟩ : ∃ F', bytesOf (itoaM F) = F' := ⟨_, rfl⟩
  rw [hIF] at q1 hdc
  have b1 := beq_same IF
  have b2 := beq_same HM
  have C1 := Lib.hid c1
  have C2 := Lib.hid c2
  have g1 : ¬ 9223372036854775807 < 4 + X.size := by omega
  clear c1 c2 l1 l2 n1 n2 hl hX hJ1 hJ2 hF hM hHM hIF hfl hy hyl
  go_enter Tryz.func7, Tryz.ntmps7
  go_wp2_with fail
  refine (haw _ ht hm).mono ?_
  rintro e w1 ⟨rfl, hb1⟩
  go_wp2_with fail
  try rw [HD.out]
  refine (hx _).mono ?_
  rintro e w2 ⟨rfl, hb2⟩
  have hB2 := seqB hb1 hb2
  go_wp2_with fail
  rw [C1.out]
  refine (q1 _ (ht.below hB2) (hm.below hB2)).mono ?_
  rintro e w3 ⟨rfl, hb3⟩
  have hB3 := seqB hB2 hb3
  go_wp2_with fail
  try rw [HD.out]
  refine (hf _).mono ?_
  rintro e w4 ⟨rfl, rfl⟩
  go_wp2_with fail
  refine (hdc _).mono ?_
  rintro e w5 ⟨rfl, hb5⟩
  have hB5 := seqB hB3 hb5
  go_wp2_with fail
  try rw [HD.out]
  refine (hx _).mono ?_
  rintro e w6 ⟨rfl, hb6⟩
  have hB6 := seqB hB5 hb6
  go_wp2_with fail
  rw [C2.out]
  refine (q2 _ (ht.below hB6) (hm.below hB6)).mono ?_
  rintro e w7 ⟨rfl, hb7⟩
  have hB7 := seqB hB6 hb7
  go_wp2_with fail
  try rw [HD.out]
  refine (h5 _).mono ?_
  rintro e w8 ⟨rfl, hb8⟩
  have hB8 := seqB hB7 hb8
  go_wp2_with fail
  refine (hh5 _).mono ?_
  rintro e w9 ⟨rfl, hb9⟩
  go_wp2_with fail
  go_ret
  exact ⟨rfl, seqB hB8 hb9⟩
theorem lsums_walk (a0 : ByteArray) (ml : Int) (w : World) (ht : TabW w) (hm : MaxLenIs w ml) :
    Calls Tryz.prog 7 #[.string a0] w fun e w' => e = .returned (.bool true) ∧ Below w.heap.size w w' := by
  by_cases h : a0.size ≤ 300
  · exact lsums_short a0 ml w h ht hm
  · exact lsums_long a0 ml w (by omega) ht hm
end Go.Proofs.YteigigepmoicaaaGreatDoor
