/- The reference: NewNeg. -/
import Derived.Test.YtagnbdenecphcaaGreatDoorRh
namespace Go.Proofs.YtagnbdenecphcaaGreatDoor
open Go.RowKit
set_option linter.unusedVariables false
set_option linter.unusedSimpArgs false
set_option maxRecDepth 100000 in
set_option maxHeartbeats 4000000 in
theorem rnew_bad (l : LinkM) (tries : Int) (w : World) (h : newOk l tries = false) :
    Calls Tryz.prog 5 #[.agg (linkCells l), .int .i64 tries] w fun e w' => e = .returned (.tuple #[.pointer none, .int .i64 1500]) ∧ Below w.heap.size w w' := by
  have hmay := fun w => rmay_any l w
  have hc : mayM l = false ∨ (mayM l = true ∧ tries < 1) ∨ (mayM l = true ∧ 1 ≤ tries ∧ 10 < tries) := by
    unfold newOk at h
    cases hm : mayM l with
    | false => exact .inl rfl
    | true =>
      rw [hm] at h
      simp at h
      right
      by_cases h1 : tries < 1
      · exact .inl ⟨rfl, h1⟩
      · exact .inr ⟨rfl, by omega, h (by omega)⟩
  have HLh := Lib.hid linkCells_eq
  rw [HLh.out] at hmay ⊢
  rcases hc with hm | ⟨hm, h1⟩ | ⟨hm, h1, h2⟩
  all_goals
    rw [hm] at hmay
    clear hm h
    go_enter Tryz.func5, Tryz.ntmps5
    go_wp2_with fail
    refine (hmay _).mono ?_
    rintro e W2 ⟨rfl, hb1⟩
    have hBW : Below w.heap.size w W2 := seqB (allocB (Below.refl _ _) _) hb1
    clear hb1 hmay
    go_wp2_with fail
    go_ret2
    exact ⟨rfl, hBW⟩
set_option maxRecDepth 100000 in
set_option maxHeartbeats 4000000 in
theorem rnew_good (l : LinkM) (tries : Int) (w : World) (h : newOk l tries = true) :
    Calls Tryz.prog 5 #[.agg (linkCells l), .int .i64 tries] w fun e w' => ∃ p, e = .returned (.tuple #[.pointer (some ⟨p, 0, none⟩), .int .i64 0]) ∧ w.heap.size ≤ p ∧ RNegAt w' p (.slice none 0 0) (newM l tries) ∧ Below w.heap.size w w' := by
  have hmay := fun w => rmay_any l w
  have hc : mayM l = true ∧ 1 ≤ tries ∧ tries ≤ 10 := by
    unfold newOk at h
    simpa [and_assoc] using h
  obtain ⟨hm, h1, h2⟩ := hc
  have HLh := Lib.hid linkCells_eq
  rw [HLh.out] at hmay ⊢
  rw [hm] at hmay
  clear hm h
  go_enter Tryz.func5, Tryz.ntmps5
  go_wp2_with fail
  refine (hmay _).mono ?_
  rintro e W2 ⟨rfl, hb1⟩
  have hh1 : W2.heap[w.heap.size]? = some (.cells (linkCells l) 23 (0, 0)) := below_of hb1 (by rw [HLh.out]; exact heap_alloc_last _ _)
  have hBW : Below w.heap.size w W2 := seqB (allocB (Below.refl _ _) _) hb1
  obtain ⟨c0, c1, c2, c3, c4, c5⟩ := link_cells hh1
  clear hb1 hmay hh1
  go_wp2_with fail
  go_ret2
  exact ⟨W2.heap.size, rfl, hBW.size, heap_alloc_last _ _, allocB hBW _⟩
end Go.Proofs.YtagnbdenecphcaaGreatDoor
