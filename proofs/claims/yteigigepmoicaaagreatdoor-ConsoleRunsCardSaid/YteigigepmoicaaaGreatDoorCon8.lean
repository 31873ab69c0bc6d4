/- The console's commands: frame: walked. -/
import Derived.Test.YteigigepmoicaaaGreatDoorCon7
import Derived.Test.YteigigepmoicaaaGreatDoorMg4
namespace Go.Proofs.YteigigepmoicaaaGreatDoor
open Go.RowKit Go.Crc
set_option linter.unusedVariables false
set_option linter.unusedSimpArgs false
theorem frameT_len (p : Int) (d : List UInt8) (m : Int) : (frameT p d m).1.length ≤ 2 * d.length + 16 := by
  unfold frameT
  split
  · simp
  · split
    · simp
    · have h := stuff_length m (put (headB p ++ d))
      have h2 : (put (headB p ++ d)).length = d.length + 6 := by simp [put, headB]
      simp only [List.length_append, List.length_cons, List.length_nil]
      omega
theorem ArgsAt.one {w : World} {p : Nat} {x : Int} {d : List UInt8} (h : ArgsAt w p [x] [d]) : ∃ g o k g2 o2 k2, w.cell? ⟨p, 0, none⟩ = some (.slice (some ⟨g, o, none⟩) 1 k) ∧ w.cell? ⟨g, o, none⟩ = some (.int .i64 x) ∧ w.cell? ⟨p, 1, none⟩ = some (.slice (some ⟨g2, o2, none⟩) 1 k2) ∧ w.cell? ⟨g2, o2, none⟩ = some (.string (bytesOf d)) := by
  obtain ⟨vn, vb, h0, h1, hn, hb⟩ := h
  rcases hn with ⟨hn, _⟩ | ⟨g, o, k, rfl, hc⟩
  · cases hn
  · rcases hb with ⟨hb, _⟩ | ⟨g2, o2, k2, rfl, hc2⟩
    · cases hb
    · exact ⟨g, o, k, g2, o2, k2, h0, hc 0 (by simp), h1, hc2 0 (by simp)⟩
set_option maxRecDepth 100000 in
set_option maxHeartbeats 4000000 in
theorem aframe_any (p : Nat) (x : Int) (d : List UInt8) (w : World) (h : ArgsAt w p [x] [d]) (hd : d.length ≤ 1000000) :
    Calls Tryz.prog 42 #[.pointer (some ⟨p, 0, none⟩)] w fun e w' => e = .returned (.tuple #[.string (bytesOf (hexM (frameT x d 0).1)), .int .i64 (frameT x d 0).2]) ∧ Below w.heap.size w w' := by
  obtain ⟨g, o, k, g2, o2, k2, c0, c1, c2, c3⟩ := h.one
  have hf := fun w => fput_any x (bytesOf d) 0 w (by rw [bytesOf_size]; unfold maxLen; omega)
  have hdd : (bytesOf d).data.toList = d := rfl
  rw [hdd] at hf
  have hfl := frameT_len x d 0
  obtain ⟨⟨F, E⟩, hF⟩ : ∃ F, frameT x d 0 = F := ⟨_, rfl⟩
  rw [hF] at hf hfl ⊢
  dsimp only at hf hfl ⊢
  have hx := fun w => chex_any (bytesOf F) w (by rw [bytesOf_size]; omega)
  have hmm : (bytesOf F).data.toList = F := rfl
  rw [hmm] at hx
  clear hF hdd h hmm hfl
  go_enter Tryz.func42, Tryz.ntmps42
  go_wp2_with fail
  refine wp_schedL (fun w' => w'.cell? ⟨p, 0, none⟩ = some (.slice (some ⟨g, o, none⟩) 1 k) ∧ w'.cell? ⟨g, o, none⟩ = some (.int .i64 x) ∧ w'.cell? ⟨p, 1, none⟩ = some (.slice (some ⟨g2, o2, none⟩) 1 k2) ∧ w'.cell? ⟨g2, o2, none⟩ = some (.string (bytesOf d))) [(0, true), (1, true), (2, true), (3, true), (4, true), (5, true), (6, true), (7, true), (8, true), (9, true), (10, true), (11, true), (12, true), (13, false), (14, true), (15, true), (16, true), (17, true), (18, true)] (by kernel_rfl) (by kernel_rfl) rfl (by kernel_rfl) (by kernel_rfl) ⟨c0, c1, c2, c3⟩ (fun _ d _ _ _ h => by cases d <;> exact h) ?_
  simp only [schedOps, List.filterMap_cons, List.filterMap_nil, List.getElem?_toArray, List.getElem?_cons_zero, List.getElem?_cons_succ, Option.map_some]
  repeat (first | (refine' wpSched_take _ (by rfl) (fun wS hS => ?_) ?_; rotate_left; (focus (obtain ⟨j0, j1, j2, j3⟩ := hS; go_simp; first | done | rfl)); (try simp only [Act.put, List.setIfInBounds_toArray, List.set_cons_zero, List.set_cons_succ])) | (refine wpSched_skip (by rfl) ?_; try simp only [Act.put, List.setIfInBounds_toArray, List.set_cons_zero, List.set_cons_succ]))
  refine wpSched_run (fun K hK => ?_)
  go_wp2_with (go_at_call 61; refine (hf _).mono ?_; rintro e w1 ⟨rfl, hb1⟩)
  have gg := fun {x : Addr} {v : Value} (h : w.cell? x = some v) => fsm_below_cell (W := w.drew) hb1 h
  refine QRun_normal (hK.out _ _ ⟨gg c0, gg c1, gg c2, gg c3⟩ ?_)
  clear hK K
  repeat (first | (refine' wpSched_take _ (by rfl) (fun wS hS => ?_) ?_; rotate_left; (focus (obtain ⟨j0, j1, j2, j3⟩ := hS; go_simp; first | done | rfl)); (try simp only [Act.put, List.setIfInBounds_toArray, List.set_cons_zero, List.set_cons_succ])) | (refine wpSched_skip (by rfl) ?_; try simp only [Act.put, List.setIfInBounds_toArray, List.set_cons_zero, List.set_cons_succ]))
  refine wpSched_done ?_
  have hB1 := seqB (Below.refl _ w).drew hb1
  go_wp2_with fail
  refine (hx _).mono ?_
  rintro e w2 ⟨rfl, hb2⟩
  go_wp2_with fail
  go_ret2
  exact ⟨rfl, seqB hB1 hb2⟩
end Go.Proofs.YteigigepmoicaaaGreatDoor
