/- The console's commands: target: walked. -/
import Derived.Test.YteigigepmoicaaaGreatDoorCon6
namespace Go.Proofs.YteigigepmoicaaaGreatDoor
open Go.RowKit
set_option linter.unusedVariables false
set_option linter.unusedSimpArgs false
def targetW (a b c d : Int) : List UInt8 × Int := if a < 0 ∨ shapeB b c d = false then ([], 2400) else (itoaM (targetN a b c d), 0)
theorem target_range (a b c d : Int) (hd : 1 ≤ d) (hd2 : d ≤ 6) (hc : 1 ≤ c) : 0 ≤ targetN a b c d ∧ targetN a b c d ≤ 6 := by
  unfold targetN
  omega
set_option maxRecDepth 100000 in
set_option maxHeartbeats 4000000 in
theorem atarget_any (p : Nat) (a b c d : Int) (l : List (List UInt8)) (w : World) (h : ArgsAt w p [a, b, c, d] l) (ha : a ≤ 9223372036854775806) (ht : TabW w) :
    Calls Tryz.prog 47 #[.pointer (some ⟨p, 0, none⟩)] w fun e w' => e = .returned (.tuple #[.string (bytesOf (targetW a b c d).1), .int .i64 (targetW a b c d).2]) ∧ Below w.heap.size w w' := by
  obtain ⟨g, o, k, c0, c1, c2, c3, c4⟩ := h.four
  have hs := fun w => shape_any b c d w
  clear h
  by_cases h0 : a < 0
  · have HT : Hid (targetW a b c d = ([], 2400)) := Lib.hid (if_pos (.inl h0))
    have h0d : decide (a < 0) = true := decide_eq_true h0
    go_enter Tryz.func47, Tryz.ntmps47
    go_wp2_with fail
    refine wp_schedL (fun w' => w'.cell? ⟨p, 0, none⟩ = some (.slice (some ⟨g, o, none⟩) 4 k) ∧ w'.cell? ⟨g, o, none⟩ = some (.int .i64 a) ∧ w'.cell? ⟨g, o + 1, none⟩ = some (.int .i64 b) ∧ w'.cell? ⟨g, o + 2, none⟩ = some (.int .i64 c) ∧ w'.cell? ⟨g, o + 3, none⟩ = some (.int .i64 d)) [(0, true), (1, true), (2, true), (3, true), (4, true), (5, true), (6, true), (7, true), (8, true), (9, true), (10, true), (11, true), (12, true), (13, true), (14, true), (15, true), (16, true), (17, true), (18, true), (19, true), (20, true), (21, true), (22, true), (23, true), (24, true), (25, true), (26, false), (27, true), (28, true)] (by kernel_rfl) (by kernel_rfl) rfl (by kernel_rfl) (by kernel_rfl) ⟨c0, c1, c2, c3, c4⟩ (fun _ d _ _ _ h => by cases d <;> exact h) ?_
    simp only [schedOps, List.filterMap_cons, List.filterMap_nil, List.getElem?_toArray, List.getElem?_cons_zero, List.getElem?_cons_succ, Option.map_some]
    repeat (first | (refine' wpSched_take _ (by rfl) (fun wS hS => ?_) ?_; rotate_left; (focus (obtain ⟨j0, j1, j2, j3, j4⟩ := hS; go_simp; first | done | rfl)); (try simp only [Act.put, List.setIfInBounds_toArray, List.set_cons_zero, List.set_cons_succ])) | (refine wpSched_skip (by rfl) ?_; try simp only [Act.put, List.setIfInBounds_toArray, List.set_cons_zero, List.set_cons_succ]))
    refine wpSched_run (fun K hK => ?_)
    go_wp2_with fail
    refine QRun_normal (hK.out _ _ ⟨c0, c1, c2, c3, c4⟩ ?_)
    clear hK K
    repeat (first | (refine' wpSched_take _ (by rfl) (fun wS hS => ?_) ?_; rotate_left; (focus (obtain ⟨j0, j1, j2, j3, j4⟩ := hS; go_simp; first | done | rfl)); (try simp only [Act.put, List.setIfInBounds_toArray, List.set_cons_zero, List.set_cons_succ])) | (refine wpSched_skip (by rfl) ?_; try simp only [Act.put, List.setIfInBounds_toArray, List.set_cons_zero, List.set_cons_succ]))
    refine wpSched_done ?_
    go_wp2_with fail
    go_ret2
    exact ⟨by rw [HT.out]; rfl, (Below.refl _ _).drew⟩
  · have h0d : decide (a < 0) = false := decide_eq_false h0
    cases hsh : shapeB b c d with
    | false =>
      have HT : Hid (targetW a b c d = ([], 2400)) := Lib.hid (if_pos (.inr hsh))
      rw [hsh] at hs
      clear hsh
      go_enter Tryz.func47, Tryz.ntmps47
      go_wp2_with fail
      refine wp_schedL (fun w' => w'.cell? ⟨p, 0, none⟩ = some (.slice (some ⟨g, o, none⟩) 4 k) ∧ w'.cell? ⟨g, o, none⟩ = some (.int .i64 a) ∧ w'.cell? ⟨g, o + 1, none⟩ = some (.int .i64 b) ∧ w'.cell? ⟨g, o + 2, none⟩ = some (.int .i64 c) ∧ w'.cell? ⟨g, o + 3, none⟩ = some (.int .i64 d)) [(0, true), (1, true), (2, true), (3, true), (4, true), (5, true), (6, true), (7, true), (8, true), (9, true), (10, true), (11, true), (12, true), (13, true), (14, true), (15, true), (16, true), (17, true), (18, true), (19, true), (20, true), (21, true), (22, true), (23, true), (24, true), (25, true), (26, false), (27, true), (28, true)] (by kernel_rfl) (by kernel_rfl) rfl (by kernel_rfl) (by kernel_rfl) ⟨c0, c1, c2, c3, c4⟩ (fun _ d _ _ _ h => by cases d <;> exact h) ?_
      simp only [schedOps, List.filterMap_cons, List.filterMap_nil, List.getElem?_toArray, List.getElem?_cons_zero, List.getElem?_cons_succ, Option.map_some]
      repeat (first | (refine' wpSched_take _ (by rfl) (fun wS hS => ?_) ?_; rotate_left; (focus (obtain ⟨j0, j1, j2, j3, j4⟩ := hS; go_simp; first | done | rfl)); (try simp only [Act.put, List.setIfInBounds_toArray, List.set_cons_zero, List.set_cons_succ])) | (refine wpSched_skip (by rfl) ?_; try simp only [Act.put, List.setIfInBounds_toArray, List.set_cons_zero, List.set_cons_succ]))
      refine wpSched_run (fun K hK => ?_)
      go_wp2_with (go_at_call 67; refine (hs _).mono ?_; rintro e w' ⟨rfl, rfl⟩)
      refine QRun_normal (hK.out _ _ ⟨c0, c1, c2, c3, c4⟩ ?_)
      clear hK K
      repeat (first | (refine' wpSched_take _ (by rfl) (fun wS hS => ?_) ?_; rotate_left; (focus (obtain ⟨j0, j1, j2, j3, j4⟩ := hS; go_simp; first | done | rfl)); (try simp only [Act.put, List.setIfInBounds_toArray, List.set_cons_zero, List.set_cons_succ])) | (refine wpSched_skip (by rfl) ?_; try simp only [Act.put, List.setIfInBounds_toArray, List.set_cons_zero, List.set_cons_succ]))
      refine wpSched_done ?_
      go_wp2_with fail
      go_ret2
      exact ⟨by rw [HT.out]; rfl, (Below.refl _ _).drew⟩
    | true =>
      have HT : Hid (targetW a b c d = (itoaM (targetN a b c d), 0)) := Lib.hid (if_neg (by rw [hsh]; rintro (h | h); exact h0 h; cases h))
      have hsb := hsh
      unfold shapeB at hsb
      simp only [Bool.and_eq_true, decide_eq_true_eq] at hsb
      have hr := target_range a b c d (by omega) (by omega) (by omega)
      have hct := fun w => count_any a b c d w (by omega) ha (by omega)
      have hi := fun w (ht : TabW w) => itoa_any (targetN a b c d) (by omega) (by omega) w ht
      rw [hsh] at hs
      obtain ⟨F, hF⟩ : ∃ F, targetN a b c d = F := ⟨_, rfl⟩
      rw [hF] at hct hi HT
      clear hF hr hsb hsh
      go_enter Tryz.func47, Tryz.ntmps47
      go_wp2_with fail
      refine wp_schedL (fun w' => w'.cell? ⟨p, 0, none⟩ = some (.slice (some ⟨g, o, none⟩) 4 k) ∧ w'.cell? ⟨g, o, none⟩ = some (.int .i64 a) ∧ w'.cell? ⟨g, o + 1, none⟩ = some (.int .i64 b) ∧ w'.cell? ⟨g, o + 2, none⟩ = some (.int .i64 c) ∧ w'.cell? ⟨g, o + 3, none⟩ = some (.int .i64 d)) [(0, true), (1, true), (2, true), (3, true), (4, true), (5, true), (6, true), (7, true), (8, true), (9, true), (10, true), (11, true), (12, true), (13, true), (14, true), (15, true), (16, true), (17, true), (18, true), (19, true), (20, true), (21, true), (22, true), (23, true), (24, true), (25, true), (26, false), (27, true), (28, true)] (by kernel_rfl) (by kernel_rfl) rfl (by kernel_rfl) (by kernel_rfl) ⟨c0, c1, c2, c3, c4⟩ (fun _ d _ _ _ h => by cases d <;> exact h) ?_
      simp only [schedOps, List.filterMap_cons, List.filterMap_nil, List.getElem?_toArray, List.getElem?_cons_zero, List.getElem?_cons_succ, Option.map_some]
      repeat (first | (refine' wpSched_take _ (by rfl) (fun wS hS => ?_) ?_; rotate_left; (focus (obtain ⟨j0, j1, j2, j3, j4⟩ := hS; go_simp; first | done | rfl)); (try simp only [Act.put, List.setIfInBounds_toArray, List.set_cons_zero, List.set_cons_succ])) | (refine wpSched_skip (by rfl) ?_; try simp only [Act.put, List.setIfInBounds_toArray, List.set_cons_zero, List.set_cons_succ]))
      refine wpSched_run (fun K hK => ?_)
      go_wp2_with (go_at_call 67; refine (hs _).mono ?_; rintro e w' ⟨rfl, rfl⟩)
      refine QRun_normal (hK.out _ _ ⟨c0, c1, c2, c3, c4⟩ ?_)
      clear hK K
      repeat (first | (refine' wpSched_take _ (by rfl) (fun wS hS => ?_) ?_; rotate_left; (focus (obtain ⟨j0, j1, j2, j3, j4⟩ := hS; go_simp; first | done | rfl)); (try simp only [Act.put, List.setIfInBounds_toArray, List.set_cons_zero, List.set_cons_succ])) | (refine wpSched_skip (by rfl) ?_; try simp only [Act.put, List.setIfInBounds_toArray, List.set_cons_zero, List.set_cons_succ]))
      refine wpSched_done ?_
      go_wp2_with fail
      refine wp_schedL (fun w' => w'.cell? ⟨p, 0, none⟩ = some (.slice (some ⟨g, o, none⟩) 4 k) ∧ w'.cell? ⟨g, o, none⟩ = some (.int .i64 a) ∧ w'.cell? ⟨g, o + 1, none⟩ = some (.int .i64 b) ∧ w'.cell? ⟨g, o + 2, none⟩ = some (.int .i64 c) ∧ w'.cell? ⟨g, o + 3, none⟩ = some (.int .i64 d)) [(0, true), (1, true), (2, true), (3, true), (4, true), (5, true), (6, true), (7, true), (8, true), (9, true), (10, true), (11, true), (12, true), (13, true), (14, true), (15, true), (16, true), (17, true), (18, true), (19, true), (20, true), (21, true), (22, true), (23, true), (24, false), (25, false), (26, true), (27, true)] (by kernel_rfl) (by kernel_rfl) rfl (by kernel_rfl) (by kernel_rfl) ⟨c0, c1, c2, c3, c4⟩ (fun _ d _ _ _ h => by cases d <;> exact h) ?_
      simp only [schedOps, List.filterMap_cons, List.filterMap_nil, List.getElem?_toArray, List.getElem?_cons_zero, List.getElem?_cons_succ, Option.map_some]
      repeat (first | (refine' wpSched_take _ (by rfl) (fun wS hS => ?_) ?_; rotate_left; (focus (obtain ⟨j0, j1, j2, j3, j4⟩ := hS; go_simp; first | done | rfl)); (try simp only [Act.put, List.setIfInBounds_toArray, List.set_cons_zero, List.set_cons_succ])) | (refine wpSched_skip (by rfl) ?_; try simp only [Act.put, List.setIfInBounds_toArray, List.set_cons_zero, List.set_cons_succ]))
      refine wpSched_run (fun K hK => ?_)
      go_wp2_with (go_at_call 68; refine (hct _).mono ?_; rintro e w' ⟨rfl, rfl⟩)
      refine QRun_normal (hK.out _ _ ⟨c0, c1, c2, c3, c4⟩ ?_)
      clear hK K
      repeat (first | (refine' wpSched_take _ (by rfl) (fun wS hS => ?_) ?_; rotate_left; (focus (obtain ⟨j0, j1, j2, j3, j4⟩ := hS; go_simp; first | done | rfl)); (try simp only [Act.put, List.setIfInBounds_toArray, List.set_cons_zero, List.set_cons_succ])) | (refine wpSched_skip (by rfl) ?_; try simp only [Act.put, List.setIfInBounds_toArray, List.set_cons_zero, List.set_cons_succ]))
      refine wpSched_run (fun K hK => ?_)
      have ht2 : TabW w.drew.drew := ht.below (Below.refl _ _).drew.drew
      go_wp2_with (go_at_call 50; refine (hi _ ht2).mono ?_; rintro e w2 ⟨rfl, hb2⟩)
      have g := fun {x : Addr} {v : Value} (h : w.cell? x = some v) => fsm_below_cell (W := w.drew.drew) hb2 h
      refine QRun_normal (hK.out _ _ ⟨g c0, g c1, g c2, g c3, g c4⟩ ?_)
      clear hK K
      repeat (first | (refine' wpSched_take _ (by rfl) (fun wS hS => ?_) ?_; rotate_left; (focus (obtain ⟨j0, j1, j2, j3, j4⟩ := hS; go_simp; first | done | rfl)); (try simp only [Act.put, List.setIfInBounds_toArray, List.set_cons_zero, List.set_cons_succ])) | (refine wpSched_skip (by rfl) ?_; try simp only [Act.put, List.setIfInBounds_toArray, List.set_cons_zero, List.set_cons_succ]))
      refine wpSched_done ?_
      go_wp2_with fail
      go_ret2
      exact ⟨by rw [HT.out]; rfl, seqB (Below.refl _ _).drew.drew hb2⟩
end Go.Proofs.YteigigepmoicaaaGreatDoor
