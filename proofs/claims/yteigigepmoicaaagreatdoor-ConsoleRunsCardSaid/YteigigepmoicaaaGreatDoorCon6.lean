/- The console's commands: delay, target: walked. -/
import Derived.Test.YteigigepmoicaaaGreatDoorCon5
namespace Go.Proofs.YteigigepmoicaaaGreatDoor
open Go.RowKit
set_option linter.unusedVariables false
set_option linter.unusedSimpArgs false
theorem ArgsAt.four {w : World} {p : Nat} {a b c d : Int} {l : List (List UInt8)} (h : ArgsAt w p [a, b, c, d] l) : ∃ g o k, w.cell? ⟨p, 0, none⟩ = some (.slice (some ⟨g, o, none⟩) 4 k) ∧ w.cell? ⟨g, o, none⟩ = some (.int .i64 a) ∧ w.cell? ⟨g, o + 1, none⟩ = some (.int .i64 b) ∧ w.cell? ⟨g, o + 2, none⟩ = some (.int .i64 c) ∧ w.cell? ⟨g, o + 3, none⟩ = some (.int .i64 d) := by
  obtain ⟨vn, vb, h0, h1, hn, hb⟩ := h
  rcases hn with ⟨hn, _⟩ | ⟨g, o, k, rfl, hc⟩
  · cases hn
  · exact ⟨g, o, k, h0, hc 0 (by simp), hc 1 (by simp), hc 2 (by simp), hc 3 (by simp)⟩
theorem delay_range (t b m j : Int) : 0 ≤ (delayM t b m j).1 ∧ (delayM t b m j).1 ≤ 4096 := by
  unfold delayM
  split
  · exact ⟨Int.le_refl _, by decide⟩
  · rename_i h
    unfold delayBad at h
    have h1 := delayD_range t.toNat b m (by omega) (by omega)
    have h2 := Int.emod_nonneg j (b := delayD t.toNat b m / 4 + 1) (by omega)
    have h3 := Int.emod_lt_of_pos j (b := delayD t.toNat b m / 4 + 1) (by omega)
    dsimp only
    omega
set_option maxRecDepth 100000 in
set_option maxHeartbeats 4000000 in
theorem adelay_any (p : Nat) (a b c d : Int) (l : List (List UInt8)) (w : World) (h : ArgsAt w p [a, b, c, d] l) (hd : d ≤ 9223372036854775807) (ht : TabW w) :
    Calls Tryz.prog 46 #[.pointer (some ⟨p, 0, none⟩)] w fun e w' => e = .returned (.tuple #[.string (bytesOf (itoaM (delayM a b c d).1)), .int .i64 (delayM a b c d).2]) ∧ Below w.heap.size w w' := by
  obtain ⟨g, o, k, c0, c1, c2, c3, c4⟩ := h.four
  have hf := fun w => delay_any a b c d w hd
  have hr := delay_range a b c d
  have hi := fun w (ht : TabW w) => itoa_any (delayM a b c d).1 (by omega) (by omega) w ht
  obtain ⟨⟨F, E⟩, hF⟩ : ∃ F, delayM a b c d = F := ⟨_, rfl⟩
  rw [hF] at hf hi ⊢
  dsimp only at hf hi ⊢
  clear hF hr h
  go_enter Tryz.func46, Tryz.ntmps46
  go_wp2_with fail
  refine wp_schedL (fun w' => w'.cell? ⟨p, 0, none⟩ = some (.slice (some ⟨g, o, none⟩) 4 k) ∧ w'.cell? ⟨g, o, none⟩ = some (.int .i64 a) ∧ w'.cell? ⟨g, o + 1, none⟩ = some (.int .i64 b) ∧ w'.cell? ⟨g, o + 2, none⟩ = some (.int .i64 c) ∧ w'.cell? ⟨g, o + 3, none⟩ = some (.int .i64 d)) [(0, true), (1, true), (2, true), (3, true), (4, true), (5, true), (6, true), (7, true), (8, true), (9, true), (10, true), (11, true), (12, true), (13, true), (14, true), (15, true), (16, true), (17, true), (18, true), (19, true), (20, true), (21, true), (22, true), (23, true), (24, false), (25, true), (26, true), (27, true), (28, true), (29, true)] (by kernel_rfl) (by kernel_rfl) rfl (by kernel_rfl) (by kernel_rfl) ⟨c0, c1, c2, c3, c4⟩ (fun _ d _ _ _ h => by cases d <;> exact h) ?_
  simp only [schedOps, List.filterMap_cons, List.filterMap_nil, List.getElem?_toArray, List.getElem?_cons_zero, List.getElem?_cons_succ, Option.map_some]
  repeat (first | (refine' wpSched_take _ (by rfl) (fun wS hS => ?_) ?_; rotate_left; (focus (obtain ⟨j0, j1, j2, j3, j4⟩ := hS; go_simp; first | done | rfl)); (try simp only [Act.put, List.setIfInBounds_toArray, List.set_cons_zero, List.set_cons_succ])) | (refine wpSched_skip (by rfl) ?_; try simp only [Act.put, List.setIfInBounds_toArray, List.set_cons_zero, List.set_cons_succ]))
  refine wpSched_run (fun K hK => ?_)
  go_wp2_with (go_at_call 66; refine (hf _).mono ?_; rintro e w' ⟨rfl, rfl⟩)
  refine QRun_normal (hK.out _ _ ⟨c0, c1, c2, c3, c4⟩ ?_)
  clear hK K
  repeat (first | (refine' wpSched_take _ (by rfl) (fun wS hS => ?_) ?_; rotate_left; (focus (obtain ⟨j0, j1, j2, j3, j4⟩ := hS; go_simp; first | done | rfl)); (try simp only [Act.put, List.setIfInBounds_toArray, List.set_cons_zero, List.set_cons_succ])) | (refine wpSched_skip (by rfl) ?_; try simp only [Act.put, List.setIfInBounds_toArray, List.set_cons_zero, List.set_cons_succ]))
  refine wpSched_done ?_
  have ht2 : TabW w.drew := ht.below (Below.refl _ _).drew
  go_wp2_with fail
  refine (hi _ ht2).mono ?_
  rintro e w2 ⟨rfl, hb2⟩
  go_wp2_with fail
  go_ret2
  exact ⟨rfl, seqB (Below.refl _ _).drew hb2⟩
end Go.Proofs.YteigigepmoicaaaGreatDoor
