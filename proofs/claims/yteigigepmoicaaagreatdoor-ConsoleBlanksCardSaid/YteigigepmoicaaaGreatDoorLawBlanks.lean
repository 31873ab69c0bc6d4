/- ConsoleBlanks walked. -/
import Derived.Test.YteigigepmoicaaaGreatDoorCon19
import Derived.Test.YteigigepmoicaaaGreatDoorCon20
import Derived.Test.YteigigepmoicaaaGreatDoorCon21
namespace Go.Proofs.YteigigepmoicaaaGreatDoor
open Go.RowKit Go.Crc
set_option linter.unusedVariables false
set_option linter.unusedSimpArgs false
theorem blank_load (k : Nat) (hk : k < 4) (w : World) : (w.alloc (.cells #[.string ⟨#[32]⟩, .string ⟨#[9]⟩, .string ⟨#[32, 32]⟩, .string ⟨#[32, 9, 32]⟩] 9)).cell? ⟨w.heap.size, k, none⟩ = some (.string (bytesOf (blanksL.getD k []))) := by
  rw [World.cell?_alloc_new]
  rcases (by omega : k = 0 ∨ k = 1 ∨ k = 2 ∨ k = 3) with rfl | rfl | rfl | rfl <;> rfl
theorem blank_size_cells : (List.range 16).all (fun v => (List.range 4).all fun k => decide ((blankA v k).length ≤ 100 ∧ (blankC v).length ≤ 100)) = true := by decide +kernel
theorem blank_sizes (v k : Nat) (hv : v < 16) (hk : k < 4) : (blankA v k).length ≤ 100 ∧ (blankC v).length ≤ 100 :=
  of_decide_eq_true (List.all_eq_true.1 (List.all_eq_true.1 blank_size_cells v (List.mem_range.2 hv)) k (List.mem_range.2 hk))
theorem blanks_len : ∀ k, k < 4 → (blanksL.getD k []).length ≤ 3 := by decide
set_option maxRecDepth 100000 in
set_option maxHeartbeats 4000000 in
theorem lblanks_walk (a0 a1 : Int) (ml : Int) (w : World) (ht : TabW w) (hm : MaxLenIs w ml) :
    Calls Tryz.prog 6 #[.int .i64 a0, .int .i64 a1] w fun e w' => e = .returned (.bool true) ∧ Below w.heap.size w w' := by
  have haw := fun w ht hm => awake28_any ml w ht hm
  obtain ⟨v, hv16, hv⟩ : ∃ v : Nat, v < 16 ∧ bits BinOp.and IntKind.i64 a0 15 = (v : Int) := by
    refine ⟨(a0 % 16).toNat, by omega, ?_⟩
    have := i64_low a0 4 (by decide)
    rw [show ((2 ^ 4 - 1 : Nat) : Int) = 15 from rfl, show ((2 ^ 4 : Nat) : Int) = 16 from rfl] at this
    rw [this]; omega
  obtain ⟨k, hk4, hk⟩ : ∃ k : Nat, k < 4 ∧ bits BinOp.and IntKind.i64 a1 3 = (k : Int) := by
    refine ⟨(a1 % 4).toNat, by omega, ?_⟩
    have := i64_low a1 2 (by decide)
    rw [show ((2 ^ 2 - 1 : Nat) : Int) = 3 from rfl, show ((2 ^ 2 : Nat) : Int) = 4 from rfl] at this
    rw [this]; omega
  have hk4i : (k : Int) < 4 := by omega
  have hdec := fun w => decimal_any v (by omega) (by omega) w
  have hload := blank_load k hk4
  obtain ⟨hrun, h33⟩ := blanks_run v k hv16 hk4
  have hbl := blanks_len k hk4
  have hil := (itoa_plain v (by omega) (by omega)).2.2
  obtain ⟨B, hB⟩ : ∃ B, bytesOf (blanksL.getD k []) = B := ⟨_, rfl⟩
  obtain ⟨X, hX⟩ : ∃ X, bytesOf (itoaM v) = X := ⟨_, rfl⟩
  have hBs : B.size ≤ 3 := by rw [← hB, bytesOf_size]; exact hbl
  have hXs : X.size ≤ 10 := by rw [← hX, bytesOf_size]; exact hil
  have hBl : B.data.toList = blanksL.getD k [] := by rw [← hB]; rfl
  have hXl : X.data.toList = itoaM v := by rw [← hX]; rfl
  rw [hB] at hload
  rw [hX] at hdec
  have HBl := Lib.hid hBl
  have HXl := Lib.hid hXl
  clear hB hX hbl hil hBl hXl
  obtain ⟨Y, hY⟩ : ∃ Y, (⟨#[35, 32, 99, 10, 10]⟩ : ByteArray) ++ B ++ ⟨#[102, 115, 109]⟩ ++ B ++ X ++ B ++ X ++ ⟨#[10]⟩ ++ B ++ ⟨#[10, 109, 100, 53, 32, 45, 10]⟩ = Y := ⟨_, rfl⟩
  have hYl : Y.data.toList = blankA v k := by
    rw [← hY]
    simp only [ByteArray.data_append, Array.toList_append, HBl.out, HXl.out]
    rfl
  have hYs : Y.size ≤ 100 := by
    rw [← len_toList, hYl]
    exact (blank_sizes v k hv16 hk4).1
  obtain ⟨Z, hZ⟩ : ∃ Z, (⟨#[102, 115, 109, 32]⟩ : ByteArray) ++ X ++ ⟨#[32]⟩ ++ X ++ ⟨#[10, 109, 100, 53, 32, 45]⟩ = Z := ⟨_, rfl⟩
  have hZl : Z.data.toList = blankC v := by
    rw [← hZ]
    simp only [ByteArray.data_append, Array.toList_append, HBl.out, HXl.out]
    rfl
  have hZs : Z.size ≤ 100 := by
    rw [← len_toList, hZl]
    exact (blank_sizes v k hv16 hk4).2
  have hrY := fun w ht hm => run_any Y ml w (by omega) ht hm
  have hrZ := fun w ht hm => run_any Z ml w (by omega) ht hm
  rw [hYl, hrun] at hrY
  rw [hZl] at hrZ
  obtain ⟨T, hT⟩ : ∃ T, bytesOf (runM (blankC v)) = T := ⟨_, rfl⟩
  have hTs : (33 : Int) < T.size := by rw [← hT, bytesOf_size]; omega
  have hself : (T.toList == T.toList) = true := beq_self_eq_true _
  rw [hT] at hrY hrZ
  clear hYl hYs hZl hZs hT hrun h33
  have HY := Lib.hid hY
  have HZ := Lib.hid hZ
  clear hY hZ
  go_enter Tryz.func6, Tryz.ntmps6
  go_wp2_with fail
  refine (haw _ ht hm).mono ?_
  rintro e w1 ⟨rfl, hb1⟩
  go_wp2_with fail
  refine (hdec _).mono ?_
  rintro e w2 ⟨rfl, hb2⟩
  have hB2 := seqB hb1 hb2
  go_wp2_with fail
  rw [HY.out]
  have hB3 := allocB hB2 (.cells #[.string ⟨#[32]⟩, .string ⟨#[9]⟩, .string ⟨#[32, 32]⟩, .string ⟨#[32, 9, 32]⟩] 9)
  refine (hrY _ (ht.below hB3) (hm.below hB3)).mono ?_
  rintro e w3 ⟨rfl, hb3⟩
  have hB4 := seqB hB3 hb3
  go_wp2_with fail
  rw [HZ.out]
  refine (hrZ _ (ht.below hB4) (hm.below hB4)).mono ?_
  rintro e w4 ⟨rfl, hb4⟩
  go_wp2_with (go_at_call 12; refine (num_any _ _).mono ?_; rintro e w' ⟨rfl, rfl⟩)
  go_ret
  exact ⟨rfl, seqB hB4 hb4⟩
end Go.Proofs.YteigigepmoicaaaGreatDoor
