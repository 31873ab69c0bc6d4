/- fsm.Step = stepSays; Num. (For seats that have no SpoilInts.) -/
import Derived.Test.YteigigepmoicaaaGreatDoorMg4
import Derived.Test.YteigigepmoicaaaGreatDoorFsmRef2
import Derived.Test.YteigigepmoicaaaGreatDoorMg3
import Derived.Handy
import Derived.RegionTactic
namespace Go.Proofs.YteigigepmoicaaaGreatDoor
open Go.RowKit
set_option linter.unusedVariables false
theorem fstep_any (s v : Int) (ml : Int) (w : World) (hm : MaxLenIs w ml) :
    Calls Tryz.prog 64 #[.int .i64 s, .int .i64 v] w fun e w' => ∃ o, e = .returned (.tuple #[.int .i64 (stepSays s v).1, o, .int .i64 (stepSays s v).2.2]) ∧ OwnI w' w.heap.size o (stepSays s v).2.1 ∧ Below w.heap.size w w' := by
  go_enter Tryz.func64, Tryz.ntmps64
  go_wp2_with fail
  refine (made_any _).mono ?_
  rintro e w1 ⟨g, rfl, ht, hb1⟩
  go_wp2_with fail
  refine (tstep_any g s v ml _ ht (hm.below hb1)).mono ?_
  rintro e w2 ⟨o, rfl, ho, hb2⟩
  go_wp2_with fail
  go_ret3
  exact ⟨o, rfl, ho.base hb1.size, seqB hb1 hb2⟩
theorem step_cells : (List.range 16).all (fun v => (List.range 10).all fun s => decide ((stepSays (s : Int) (v : Int)).2.1.length ≤ 3 ∧ 0 ≤ (stepSays (s : Int) (v : Int)).1 ∧ (stepSays (s : Int) (v : Int)).1 ≤ 9 ∧ (∀ x ∈ (stepSays (s : Int) (v : Int)).2.1, 0 ≤ x ∧ x ≤ 99) ∧ 0 ≤ (stepSays (s : Int) (v : Int)).2.2 ∧ (stepSays (s : Int) (v : Int)).2.2 ≤ 2000)) = true := by decide +kernel
theorem step_range (s v : Int) : (stepSays s v).2.1.length ≤ 3 ∧ 0 ≤ (stepSays s v).1 ∧ (stepSays s v).1 ≤ 9 ∧ (∀ x ∈ (stepSays s v).2.1, 0 ≤ x ∧ x ≤ 99) ∧ 0 ≤ (stepSays s v).2.2 ∧ (stepSays s v).2.2 ≤ 2000 := by
  by_cases h : s < 0 ∨ 10 ≤ s ∨ v < 0 ∨ 16 ≤ v
  · unfold stepSays; rw [if_pos h]; simp
  · have h1 := List.all_eq_true.1 step_cells v.toNat (by simp; omega)
    have h2 := List.all_eq_true.1 h1 s.toNat (by simp; omega)
    have h3 := of_decide_eq_true h2
    rw [show ((s.toNat : Nat) : Int) = s by omega, show ((v.toNat : Nat) : Int) = v by omega] at h3
    exact h3
end Go.Proofs.YteigigepmoicaaaGreatDoor
