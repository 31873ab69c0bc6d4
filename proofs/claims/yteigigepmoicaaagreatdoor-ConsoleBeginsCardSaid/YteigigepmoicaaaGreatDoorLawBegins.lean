/- ConsoleBegins walked. -/
import Derived.Test.YteigigepmoicaaaGreatDoorCon19
namespace Go.Proofs.YteigigepmoicaaaGreatDoor
open Go.RowKit Go.Crc
set_option linter.unusedVariables false
set_option linter.unusedSimpArgs false
set_option maxRecDepth 100000 in
set_option maxHeartbeats 4000000 in
theorem begins_walk (a0 a1 : ByteArray) (ml : Int) (w : World) (s0 : a0.size ≤ 140737488351232) (s1 : a1.size ≤ 140737488351232) (ht : TabW w) (hm : MaxLenIs w ml) :
    Calls Tryz.prog 4 #[.string a0, .string a1] w fun e w' => e = .returned (.bool true) ∧ Below w.heap.size w w' := by
  obtain ⟨X, hX⟩ : ∃ X, a0 ++ (⟨#[10]⟩ : ByteArray) = X := ⟨_, rfl⟩
  have z1 : ¬ 9223372036854775807 < a0.size + 1 := by omega
  have hXs : X.size = a0.size + 1 := by rw [← hX, ByteArray.size_append]; rfl
  have hXl : X.data.toList = a0.data.toList ++ [10] := by rw [← hX]; simp
  obtain ⟨Y, hY⟩ : ∃ Y, X ++ a1 = Y := ⟨_, rfl⟩
  have z2 : ¬ 9223372036854775807 < X.size + a1.size := by omega
  have hYs : X.size + a1.size = Y.size := by rw [← hY, ByteArray.size_append]
  have hYl : Y.data.toList = a0.data.toList ++ 10 :: a1.data.toList := by rw [← hY]; simp [hXl]
  have haw := fun w ht hm => awake28_any ml w ht hm
  by_cases hlong : 65536 < Y.size
  · have hrX := fun w ht hm => run_some X ml w ht hm
    have hrY := fun w => runlong_any Y w hlong
    have hgt : (65536 : Int) < (Y.size : Nat) := by omega
    have hYsz : (X ++ a1).size = Y.size := by rw [hY]
    have z3 : ¬ 9223372036854775807 < Y.size := by omega
    have HX := Lib.hid hXs
    have HY := Lib.hid hYs
    clear hXs hYs hXl hYl
    go_enter Tryz.func4, Tryz.ntmps4
    go_wp2_with fail
    refine (haw _ ht hm).mono ?_
    rintro e w1 ⟨rfl, hb1⟩
    go_wp2_with fail
    refine (hrX _ (ht.below hb1) (hm.below hb1)).mono ?_
    rintro e w2 ⟨S, E, rfl, hb2⟩
    have hB2 := seqB hb1 hb2
    go_wp2_with fail
    refine (hrY _).mono ?_
    rintro e w3 ⟨rfl, hb3⟩
    have hB3 := seqB hB2 hb3
    go_wp2_with (go_at_call 12; refine (num_any _ _).mono ?_; rintro e w' ⟨rfl, rfl⟩)
    go_ret
    exact ⟨rfl, hB3⟩
  · have hrX := fun w ht hm => run_any X ml w (by omega) ht hm
    have hrY := fun w ht hm => run_any Y ml w (by omega) ht hm
    rw [hXl, run_end] at hrX
    rw [hYl, run_more] at hrY
    have hlen := run_len Y.data.toList (by rw [len_toList]; omega)
    rw [hYl, run_more] at hlen
    obtain ⟨p, hp⟩ : ∃ p, runM a0.data.toList = p := ⟨_, rfl⟩
    obtain ⟨q, hq⟩ : ∃ q, runM a1.data.toList = q := ⟨_, rfl⟩
    rw [hp] at hrX
    rw [hp, hq] at hrY hlen
    obtain ⟨S, hS⟩ : ∃ S, bytesOf p = S := ⟨_, rfl⟩
    obtain ⟨T, hT⟩ : ∃ T, bytesOf (p ++ q) = T := ⟨_, rfl⟩
    have hle : ((S.size : Nat) : Int) ≤ (T.size : Nat) := by
      rw [← hS, ← hT, bytesOf_size, bytesOf_size, List.length_append]; omega
    have hle2 : S.size ≤ T.size := by omega
    have hex : T.extract 0 S.size = S := by
      refine ba_ext ?_
      rw [← hS, ← hT]
      simp [bytesOf, ByteArray.size]
    have hself : (S.toList == S.toList) = true := beq_self_eq_true _
    rw [hS] at hrX
    rw [hT] at hrY
    clear hp hq hS hT hlen hXl hYl hXs hYs hlong
    go_enter Tryz.func4, Tryz.ntmps4
    go_wp2_with fail
    refine (haw _ ht hm).mono ?_
    rintro e w1 ⟨rfl, hb1⟩
    go_wp2_with fail
    refine (hrX _ (ht.below hb1) (hm.below hb1)).mono ?_
    rintro e w2 ⟨rfl, hb2⟩
    have hB2 := seqB hb1 hb2
    go_wp2_with fail
    refine (hrY _ (ht.below hB2) (hm.below hB2)).mono ?_
    rintro e w3 ⟨rfl, hb3⟩
    have hB3 := seqB hB2 hb3
    go_wp2_with (go_at_call 12; refine (num_any _ _).mono ?_; rintro e w' ⟨rfl, rfl⟩)
    go_ret
    exact ⟨rfl, hB3⟩
end Go.Proofs.YteigigepmoicaaaGreatDoor
