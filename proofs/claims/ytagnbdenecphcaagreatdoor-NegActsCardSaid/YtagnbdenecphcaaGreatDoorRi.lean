/- The reference: Alike. -/
import Derived.Test.YtagnbdenecphcaaGreatDoorRh
import Derived.Test.YtagnbdenecphcaaGreatDoorRin
import Derived.Test.YtagnbdenecphcaaGreatDoorMj
namespace Go.Proofs.YtagnbdenecphcaaGreatDoor
open Go.RowKit
set_option linter.unusedVariables false
set_option linter.unusedSimpArgs false
theorem opt_beq (a b : OptM) : (a.1 == b.1 && a.2.toList == b.2.toList) = true ↔ a = b := by
  rw [Bool.and_eq_true, beq_iff_eq, beq_iff_eq, ba_toList, ba_toList]
  constructor
  · rintro ⟨h1, h2⟩
    obtain ⟨a1, a2⟩ := a
    obtain ⟨b1, b2⟩ := b
    dsimp only at h1 h2
    have : a2 = b2 := by apply ByteArray.ext; apply Array.ext'; exact h2
    rw [h1, this]
  · rintro rfl
    exact ⟨rfl, rfl⟩
set_option maxRecDepth 100000 in
set_option maxHeartbeats 4000000 in
theorem ralike_any (v1 v2 : Value) (l1 l2 : List OptM) (w : World) (h1 : OptsIn w v1 l1) (h2 : OptsIn w v2 l2) :
    Calls Tryz.prog 33 #[v1, v2] w fun e w' => ∃ b, e = .returned (.bool b) ∧ (b = true ↔ l1 = l2) ∧ Below w.heap.size w w' := by
  have hle := h1.le
  obtain ⟨a1, c1, rfl, hc1, _⟩ := h1.form
  obtain ⟨a2, c2, rfl, hc2, _⟩ := h2.form
  have HC1 := Lib.hid h1
  have HC2 := Lib.hid h2
  by_cases hlen : l1.length = l2.length
  · obtain ⟨n, hnn⟩ : ∃ n, l1.length = n := ⟨_, rfl⟩
    have hnn2 : l2.length = n := hlen.symm.trans hnn
    have HN := Lib.hid hnn
    have HN2 := Lib.hid hnn2
    rw [hnn] at hle hc1 ⊢
    rw [hnn2] at hc2 ⊢
    have hne0 : ((n : Int) != (n : Int)) = false := by simp
    clear h1 h2 hnn hnn2 hlen
    go_enter Tryz.func33, Tryz.ntmps33
    go_wp2_with fail
    go_loopw [5] (fun i wr => ∃ j : Nat, j ≤ n ∧ i = .int .i64 j ∧ Below w.heap.size w wr ∧ Hid (l1.take j = l2.take j)) (fun i _ => n - (intOf i).toNat)
    case atStart => exact ⟨0, Nat.zero_le _, rfl, Below.refl _ _, Lib.hid rfl⟩
    case round =>
      obtain ⟨j, hj, rfl, hbl, HE⟩ := hrel
      by_cases hlt : j < n
      · have hj1 : j < l1.length := by rw [HN.out]; exact hlt
        have hj2 : j < l2.length := by rw [HN2.out]; exact hlt
        obtain ⟨g1, o1, rfl⟩ : ∃ g o, a1 = some ⟨g, o, none⟩ := by
          rcases HC1.out.or with ⟨h0, _⟩ | ⟨g, o, c, hv, _⟩
          · rw [h0] at hj1; cases hj1
          · simp only [Value.slice.injEq] at hv; exact ⟨g, o, hv.1⟩
        obtain ⟨g2, o2, rfl⟩ : ∃ g o, a2 = some ⟨g, o, none⟩ := by
          rcases HC2.out.or with ⟨h0, _⟩ | ⟨g, o, c, hv, _⟩
          · rw [h0] at hj2; cases hj2
          · simp only [Value.slice.injEq] at hv; exact ⟨g, o, hv.1⟩
        obtain ⟨d1, d2⟩ := (OptsAt.cells (HC1.out.at (fun h => by rw [h] at hj1; cases hj1))).2.2.2 j hj1
        obtain ⟨d3, d4⟩ := (OptsAt.cells (HC2.out.at (fun h => by rw [h] at hj2; cases hj2))).2.2.2 j hj2
        replace d1 := fsm_below_cell hbl d1
        replace d2 := fsm_below_cell hbl d2
        replace d3 := fsm_below_cell hbl d3
        replace d4 := fsm_below_cell hbl d4
        have hneq := opt_neq l1[j] l2[j]
        have hq := opt_beq l1[j] l2[j]
        have t1 : l1.take (j + 1) = l1.take j ++ [l1[j]] := List.take_succ_eq_append_getElem hj1
        have t2 : l2.take (j + 1) = l2.take j ++ [l2[j]] := List.take_succ_eq_append_getElem hj2
        have tn : l1[j] ≠ l2[j] → l1 ≠ l2 := by rintro h rfl; exact h rfl
        obtain ⟨x, hx⟩ : ∃ x, l1[j] = x := ⟨_, rfl⟩
        obtain ⟨y, hy⟩ : ∃ y, l2[j] = y := ⟨_, rfl⟩
        rw [hx] at d1 d2 hneq hq t1 tn
        rw [hy] at d3 d4 hneq hq t2 tn
        have hjn : j + 1 ≤ n := hlt
        clear hx hy
        cases hb : (x.1 == y.1 && x.2.toList == y.2.toList) with
        | true =>
          have hxy := hq.1 hb
          rw [hb] at hneq
          simp only [Bool.not_true] at hneq
          have HE2 : Hid (l1.take (j + 1) = l2.take (j + 1)) := Lib.hid (by rw [t1, t2, HE.out, hxy])
          clear t1 t2 tn hq hb hxy
          go_wp2_with fail
          refine wp_schedL (fun w' => w'.cell? ⟨g1, o1 + j * 2, none⟩ = some (.int .i64 x.1) ∧ w'.cell? ⟨g1, o1 + j * 2 + 1, none⟩ = some (.string x.2) ∧ w'.cell? ⟨g2, o2 + j * 2, none⟩ = some (.int .i64 y.1) ∧ w'.cell? ⟨g2, o2 + j * 2 + 1, none⟩ = some (.string y.2)) [(0, true), (1, true), (2, true), (3, true), (4, true), (5, true), (6, true), (7, true), (8, true)] (by kernel_rfl) (by kernel_rfl) rfl (by kernel_rfl) (by kernel_rfl) ⟨d1, d2, d3, d4⟩ (fun _ d _ _ _ h => by cases d <;> exact h) ?_
          simp only [schedOps, List.filterMap_cons, List.filterMap_nil, List.getElem?_toArray, List.getElem?_cons_zero, List.getElem?_cons_succ, Option.map_some]
          repeat (first | (refine' wpSched_take _ (by rfl) (fun wS hS => ?_) ?_; rotate_left; (focus (obtain ⟨d1, d2, d3, d4⟩ := hS; go_simp; first | done | rfl)); (try simp only [Act.put, List.setIfInBounds_toArray, List.set_cons_zero, List.set_cons_succ])) | (refine wpSched_skip (by rfl) ?_; try simp only [Act.put, List.setIfInBounds_toArray, List.set_cons_zero, List.set_cons_succ]))
          refine wpSched_done ?_
          go_wp2_with fail
          go_roundw
          case rel => exact ⟨j + 1, hjn, by go_num, drewB hbl, HE2⟩
          case measure => simp [intOf]; omega
        | false =>
          have hxy := tn (fun h => by rw [hq.2 h] at hb; cases hb)
          rw [hb] at hneq
          simp only [Bool.not_false] at hneq
          have HNE := Lib.hid hxy
          clear t1 t2 tn hq hb hxy
          go_wp2_with fail
          refine wp_schedL (fun w' => w'.cell? ⟨g1, o1 + j * 2, none⟩ = some (.int .i64 x.1) ∧ w'.cell? ⟨g1, o1 + j * 2 + 1, none⟩ = some (.string x.2) ∧ w'.cell? ⟨g2, o2 + j * 2, none⟩ = some (.int .i64 y.1) ∧ w'.cell? ⟨g2, o2 + j * 2 + 1, none⟩ = some (.string y.2)) [(0, true), (1, true), (2, true), (3, true), (4, true), (5, true), (6, true), (7, true), (8, true)] (by kernel_rfl) (by kernel_rfl) rfl (by kernel_rfl) (by kernel_rfl) ⟨d1, d2, d3, d4⟩ (fun _ d _ _ _ h => by cases d <;> exact h) ?_
          simp only [schedOps, List.filterMap_cons, List.filterMap_nil, List.getElem?_toArray, List.getElem?_cons_zero, List.getElem?_cons_succ, Option.map_some]
          repeat (first | (refine' wpSched_take _ (by rfl) (fun wS hS => ?_) ?_; rotate_left; (focus (obtain ⟨d1, d2, d3, d4⟩ := hS; go_simp; first | done | rfl)); (try simp only [Act.put, List.setIfInBounds_toArray, List.set_cons_zero, List.set_cons_succ])) | (refine wpSched_skip (by rfl) ?_; try simp only [Act.put, List.setIfInBounds_toArray, List.set_cons_zero, List.set_cons_succ]))
          refine wpSched_done ?_
          go_wp2_with fail
          go_ret
          exact ⟨false, rfl, ⟨fun h => (by cases h), fun h => absurd h HNE.out⟩, drewB hbl⟩
      · obtain rfl : j = n := by omega
        have HEQ : Hid (l1 = l2) := Lib.hid (by
          have h := HE.out
          rw [List.take_of_length_le (by rw [HN.out]; exact Nat.le_refl _), List.take_of_length_le (by rw [HN2.out]; exact Nat.le_refl _)] at h
          exact h)
        go_wp2_with fail
        go_ret
        exact ⟨true, rfl, ⟨fun _ => HEQ.out, fun _ => rfl⟩, hbl⟩
  · have HNE : Hid (l1 ≠ l2) := Lib.hid (fun h => hlen (by rw [h]))
    have hl2 := h2.le
    obtain ⟨n1, hn1⟩ : ∃ n, l1.length = n := ⟨_, rfl⟩
    obtain ⟨n2, hn2⟩ : ∃ n, l2.length = n := ⟨_, rfl⟩
    rw [hn1] at hlen hc1 hle ⊢
    rw [hn2] at hlen hc2 hl2 ⊢
    have hne0 : ((n1 : Int) != (n2 : Int)) = true := by simp; omega
    clear h1 h2
    go_enter Tryz.func33, Tryz.ntmps33
    go_wp2_with fail
    go_ret
    exact ⟨false, rfl, ⟨fun h => (by cases h), fun h => absurd h HNE.out⟩, Below.refl _ _⟩
end Go.Proofs.YtagnbdenecphcaaGreatDoor
