/- The console's commands: unframe: walked. -/
import Derived.Test.YteigigepmoicaaaGreatDoorCon8
namespace Go.Proofs.YteigigepmoicaaaGreatDoor
open Go.RowKit Go.Crc
set_option linter.unusedVariables false
set_option linter.unusedSimpArgs false
theorem unhead_range (u : List UInt8) : 0 ≤ (unhead u).1 ∧ (unhead u).1 ≤ 65535 := by
  unfold unhead
  split
  · exact ⟨by decide, by decide⟩
  · split
    · exact ⟨by decide, by decide⟩
    · split
      · exact ⟨by decide, by decide⟩
      · dsimp only
        have h2 := (u.getD 2 0).toNat_lt
        have h3 := (u.getD 3 0).toNat_lt
        omega
theorem unframe_range (l : List UInt8) : 0 ≤ (unframe l).1 ∧ (unframe l).1 ≤ 65535 := by
  unfold unframe
  split
  · exact ⟨by decide, by decide⟩
  · split
    · exact ⟨by decide, by decide⟩
    · exact unhead_range _
theorem unhead_size (u : List UInt8) : (unhead u).2.1.length ≤ 2052 := by
  unfold unhead
  split
  · simp
  · split
    · simp
    · split
      · simp
      · simp; omega
theorem unframe_size (l : List UInt8) : (unframe l).2.1.length ≤ 2052 := by
  unfold unframe
  split
  · simp
  · split
    · simp
    · exact unhead_size _
theorem decF_len : ∀ (f u : Nat), (decF f u).length ≤ f
  | 0, u => by simp [decF]
  | f + 1, u => by
    unfold decF
    split
    · simp
    · have := decF_len f (u / 10); simp; omega
theorem itoa_len (n : Int) : (itoaM n).length ≤ 21 := by
  unfold itoaM
  split
  · have := decF_len 20 n.natAbs; simp; omega
  · have := decF_len 20 n.toNat; omega
theorem hexM_len (l : List UInt8) : (hexM l).length ≤ 2 * l.length + 1 := by
  unfold hexM
  split
  · simp
  · rw [hexL_length]; omega
set_option maxRecDepth 100000 in
set_option maxHeartbeats 4000000 in
theorem aunframe_any (p : Nat) (d : List UInt8) (w : World) (h : ArgsAt w p [] [d]) (hd : d.length ≤ 1000000) (ht : TabW w) :
    Calls Tryz.prog 43 #[.pointer (some ⟨p, 0, none⟩)] w fun e w' => e = .returned (.tuple #[.string (bytesOf (itoaM (unframe d).1 ++ [32] ++ hexM (unframe d).2.1)), .int .i64 (unframe d).2.2]) ∧ Below w.heap.size w w' := by
  obtain ⟨g, o, c, h1, h2⟩ := h.text
  have hf := fget_any (bytesOf d) w (by rw [bytesOf_size]; omega)
  have hdd : (bytesOf d).data.toList = d := rfl
  rw [hdd] at hf
  have hr := unframe_range d
  have hz := unframe_size d
  obtain ⟨⟨F, D, E⟩, hF⟩ : ∃ F, unframe d = F := ⟨_, rfl⟩
  rw [hF] at hf hr hz ⊢
  dsimp only [ansF] at hf hr hz ⊢
  have hi := fun w (ht : TabW w) => itoa_any F (by omega) (by omega) w ht
  have hx := fun w => chex_any (bytesOf D) w (by rw [bytesOf_size]; omega)
  have hmm : (bytesOf D).data.toList = D := rfl
  rw [hmm] at hx
  have s1 : ¬ 9223372036854775807 < (bytesOf (itoaM F)).size + 1 := by
    have := itoa_len F
    rw [bytesOf_size]; omega
  have s2 : ¬ 9223372036854775807 < (bytesOf (itoaM F)).size + 1 + (bytesOf (hexM D)).size := by
    have := itoa_len F
    have := hexM_len D
    rw [bytesOf_size, bytesOf_size]; omega
  have hcat : bytesOf (itoaM F) ++ (⟨#[32]⟩ : ByteArray) ++ bytesOf (hexM D) = bytesOf (itoaM F ++ [32] ++ hexM D) := by
    rw [show (⟨#[32]⟩ : ByteArray) = bytesOf [32] from rfl, bytesOf_append, bytesOf_append]
  clear hF hdd h hmm hr hz
  go_enter Tryz.func43, Tryz.ntmps43
  go_wp2_with fail
  refine hf.mono ?_
  rintro e w1 ⟨rfl, hb1⟩
  have ht1 := ht.below hb1
  go_wp2_with fail
  have c0 : (w1.alloc (Obj.cells #[Value.int IntKind.i64 F, Value.string (bytesOf D)] 69)).cell? ⟨w1.heap.size, 0, none⟩ = some (.int .i64 F) := by rw [World.cell?_alloc_new]; rfl
  have c1 : (w1.alloc (Obj.cells #[Value.int IntKind.i64 F, Value.string (bytesOf D)] 69)).cell? ⟨w1.heap.size, 1, none⟩ = some (.string (bytesOf D)) := by rw [World.cell?_alloc_new]; rfl
  have hB2 := allocB hb1 (Obj.cells #[Value.int IntKind.i64 F, Value.string (bytesOf D)] 69)
  have ht2 := ht.below hB2
  obtain ⟨B, hB⟩ : ∃ B, w1.heap.size = B := ⟨_, rfl⟩
  rw [hB] at c0 c1 ⊢
  obtain ⟨W, hW⟩ : ∃ W, w1.alloc (Obj.cells #[Value.int IntKind.i64 F, Value.string (bytesOf D)] 69) = W := ⟨_, rfl⟩
  rw [hW] at c0 c1 hB2 ht2 ⊢
  clear hW hB hb1 ht1 hf
  refine wp_schedL (fun w' => w'.cell? ⟨B, 0, none⟩ = some (.int .i64 F) ∧ w'.cell? ⟨B, 1, none⟩ = some (.string (bytesOf D))) [(0, true), (1, true), (4, true), (5, true), (8, true), (2, false), (3, true), (6, false), (7, true), (9, true), (10, true)] (by kernel_rfl) (by kernel_rfl) rfl (by kernel_rfl) (by kernel_rfl) ⟨c0, c1⟩ (fun _ d _ _ _ h => by cases d <;> exact h) ?_
  simp only [schedOps, List.filterMap_cons, List.filterMap_nil, List.getElem?_toArray, List.getElem?_cons_zero, List.getElem?_cons_succ, Option.map_some]
  repeat (first | (refine' wpSched_take _ (by rfl) (fun wS hS => ?_) ?_; rotate_left; (focus (obtain ⟨j0, j1⟩ := hS; go_simp; first | done | rfl)); (try simp only [Act.put, List.setIfInBounds_toArray, List.set_cons_zero, List.set_cons_succ])) | (refine wpSched_skip (by rfl) ?_; try simp only [Act.put, List.setIfInBounds_toArray, List.set_cons_zero, List.set_cons_succ]))
  refine wpSched_run (fun K hK => ?_)
  go_wp2_with (go_at_call 50; refine (hi _ (ht2.below (Below.refl _ _).drew)).mono ?_; rintro e w2 ⟨rfl, hb2⟩)
  have gg := fun {x : Addr} {v : Value} (h : W.cell? x = some v) => fsm_below_cell (W := W.drew) hb2 h
  refine QRun_normal (hK.out _ _ ⟨gg c0, gg c1⟩ ?_)
  clear hK K
  repeat (first | (refine' wpSched_take _ (by rfl) (fun wS hS => ?_) ?_; rotate_left; (focus (obtain ⟨j0, j1⟩ := hS; go_simp; first | done | rfl)); (try simp only [Act.put, List.setIfInBounds_toArray, List.set_cons_zero, List.set_cons_succ])) | (refine wpSched_skip (by rfl) ?_; try simp only [Act.put, List.setIfInBounds_toArray, List.set_cons_zero, List.set_cons_succ]))
  refine wpSched_run (fun K hK => ?_)
  go_wp2_with (go_at_call 62; refine (hx _).mono ?_; rintro e w3 ⟨rfl, hb3⟩)
  have gg2 := fun {x : Addr} {v : Value} (h : w2.cell? x = some v) => fsm_below_cell (W := w2) hb3 h
  refine QRun_normal (hK.out _ _ ⟨gg2 (gg c0), gg2 (gg c1)⟩ ?_)
  clear hK K
  repeat (first | (refine' wpSched_take _ (by rfl) (fun wS hS => ?_) ?_; rotate_left; (focus (obtain ⟨j0, j1⟩ := hS; go_simp; first | done | rfl)); (try simp only [Act.put, List.setIfInBounds_toArray, List.set_cons_zero, List.set_cons_succ])) | (refine wpSched_skip (by rfl) ?_; try simp only [Act.put, List.setIfInBounds_toArray, List.set_cons_zero, List.set_cons_succ]))
  refine wpSched_done ?_
  go_wp2_with fail
  go_ret2
  exact ⟨by rw [List.append_assoc]; rfl, seqB (seqB hB2.drew hb2) hb3⟩
end Go.Proofs.YteigigepmoicaaaGreatDoor
