/- The reference's MD5: turns, sines: walked. -/
import Derived.Test.YteigigepmoicaaaGreatDoorMd5O
import Derived.Great.BuildSlice
namespace Go.Proofs.YteigigepmoicaaaGreatDoor
open Go.RowKit
set_option linter.unusedVariables false
set_option linter.unusedSimpArgs false
def turnsI : List Int := [7, 12, 17, 22, 5, 9, 14, 20, 4, 11, 16, 23, 6, 10, 15, 21]
def sinesI : List Int := sinesT.map Int.ofNat
theorem row_at (w : World) (k : IntKind) (zs : List Int) (t : TypeId) (j : Nat) (h : j < zs.length) : (w.alloc (.cells (zs.map (Value.int k)).toArray t)).cell? ⟨w.heap.size, j, none⟩ = some (.int k zs[j]) := by
  rw [World.cell?_alloc_new]
  simp [h]
set_option maxRecDepth 100000 in
set_option maxHeartbeats 4000000 in
theorem rturns_any (i : Nat) (w : World) (hi : i < 64) : Calls Tryz.prog 59 #[.int .i64 i] w fun e w' => e = .returned (.int .i64 (turnT i)) ∧ Below w.heap.size w w' := by
  have hd : (i : Int).tdiv 16 = ((i / 16 : Nat) : Int) := by rw [Int.tdiv_eq_ediv_of_nonneg (by omega)]; omega
  have hm : (i : Int).tmod 4 = ((i % 4 : Nat) : Int) := by rw [Int.tmod_eq_emod_of_nonneg (by omega)]; omega
  obtain ⟨q, hq⟩ : ∃ q, i / 16 = q := ⟨_, rfl⟩
  obtain ⟨r, hr⟩ : ∃ r, i % 4 = r := ⟨_, rfl⟩
  have hq4 : q < 4 := by omega
  have hr4 : r < 4 := by omega
  obtain ⟨j, hj⟩ : ∃ j, q * 4 + r = j := ⟨_, rfl⟩
  have hj16 : j < 16 := by omega
  have HT : turnsI[j]'hj16 = turnT i := by
    have : ∀ j : Fin 16, turnsI[j.val]'j.isLt = (turnsT.getD j.val 0 : Nat) := by decide
    rw [this ⟨j, hj16⟩]
    unfold turnT
    rw [hq, hr, hj]
  have hc := row_at w .i64 turnsI 3 j hj16
  rw [HT] at hc
  have hji : (q : Int) * 4 + (r : Int) = (j : Int) := by omega
  have hji16 : (j : Int) < 16 := by omega
  rw [hq] at hd
  rw [hr] at hm
  clear hq hr hj HT
  go_enter Tryz.func59, Tryz.ntmps59
  go_wp2_with (refine wpList_buildFlat rfl 39 3 16 _ rfl .i64 turnsI Tryz.underlying39 rfl rfl rfl (by decide) (by decide) (by kernel_rfl) ?_)
  go_ret
  exact ⟨rfl, allocB (Below.refl _ _) _⟩
set_option maxRecDepth 100000 in
set_option maxHeartbeats 4000000 in
theorem rsines_any (w : World) : Calls Tryz.prog 37 #[] w fun e w' => e = .returned (.slice (some ⟨w.heap.size, 0, none⟩) 64 64) ∧ w' = w.alloc (.cells (sinesI.map (Value.int .u32)).toArray 73) := by
  go_enter Tryz.func37, Tryz.ntmps37
  go_wp2_with (refine wpList_buildFlat rfl 74 73 64 _ rfl .u32 sinesI Tryz.underlying74 rfl rfl rfl (by decide) (by decide) (by kernel_rfl) ?_)
  go_ret
  exact ⟨rfl, rfl⟩
end Go.Proofs.YteigigepmoicaaaGreatDoor
