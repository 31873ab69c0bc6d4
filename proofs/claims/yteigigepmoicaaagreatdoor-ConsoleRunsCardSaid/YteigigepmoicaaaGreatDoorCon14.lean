/- The console's commands: fsm: walked. -/
import Derived.Test.YteigigepmoicaaaGreatDoorCon9
import Derived.Test.YteigigepmoicaaaGreatDoorFsmStep
namespace Go.Proofs.YteigigepmoicaaaGreatDoor
open Go.RowKit
set_option linter.unusedVariables false
set_option linter.unusedSimpArgs false
theorem ArgsAt.two {w : World} {p : Nat} {a b : Int} {l : List (List UInt8)} (h : ArgsAt w p [a, b] l) : ∃ g o k, w.cell? ⟨p, 0, none⟩ = some (.slice (some ⟨g, o, none⟩) 2 k) ∧ w.cell? ⟨g, o, none⟩ = some (.int .i64 a) ∧ w.cell? ⟨g, o + 1, none⟩ = some (.int .i64 b) := by
  obtain ⟨vn, vb, h0, h1, hn, hb⟩ := h
  rcases hn with ⟨hn, _⟩ | ⟨g, o, k, rfl, hc⟩
  · cases hn
  · exact ⟨g, o, k, h0, hc 0 (by simp), hc 1 (by simp)⟩
theorem acts_snoc (l : List Int) (k : Nat) (h : k < l.length) : actsW (l.take (k + 1)) = actsW (l.take k) ++ 32 :: itoaM l[k] := by
  rw [List.take_succ_eq_append_getElem h]
  unfold actsW
  rw [List.flatMap_append]
  simp
theorem acts_size : ∀ (l : List Int), (actsW l).length ≤ 22 * l.length
  | [] => by simp [actsW]
  | x :: l => by
    have := acts_size l
    have := itoa_len x
    rw [show actsW (x :: l) = (32 :: itoaM x) ++ actsW l from rfl]
    simp
    omega
theorem str_ret (P Q : List UInt8) (w : World) (hP : P.length ≤ 1000) (hQ : Q.length ≤ 1000) : ¬ 9223372036854775807 < (bytesOf P).size + (1 + (bytesOf Q).size) ∧ ¬ 9223372036854775807 < 1 + (bytesOf Q).size ∧ bytesOf P ++ ((⟨#[32]⟩ : ByteArray) ++ bytesOf Q) = bytesOf (P ++ 32 :: Q) := by
  refine ⟨by rw [bytesOf_size, bytesOf_size]; omega, by rw [bytesOf_size]; omega, ?_⟩
  rw [show (⟨#[32]⟩ : ByteArray) = bytesOf [32] from rfl, bytesOf_append, bytesOf_append]
  rfl
set_option maxRecDepth 100000 in
set_option maxHeartbeats 4000000 in
theorem afsm_any (p : Nat) (a b : Int) (l : List (List UInt8)) (ml : Int) (w : World) (h : ArgsAt w p [a, b] l) (ht : TabW w) (hm : MaxLenIs w ml) :
    Calls Tryz.prog 44 #[.pointer (some ⟨p, 0, none⟩)] w fun e w' => e = .returned (.tuple #[.string (bytesOf (itoaM (stepSays a b).1 ++ actsW (stepSays a b).2.1)), .int .i64 (stepSays a b).2.2]) ∧ Below w.heap.size w w' := by
  obtain ⟨g, o, k, c0, c1, c2⟩ := h.two
  have hf := fun w (hm : MaxLenIs w ml) => fstep_any a b ml w hm
  have hr := step_range a b
  obtain ⟨⟨T, L, E⟩, hF⟩ : ∃ F, stepSays a b = F := ⟨_, rfl⟩
  rw [hF] at hf hr ⊢
  dsimp only at hf hr ⊢
  obtain ⟨hL3, hT0, hT9, hLx, -, -⟩ := hr
  have hi := fun w (ht : TabW w) => itoa_any T (by omega) (by omega) w ht
  clear hF h
  go_enter Tryz.func44, Tryz.ntmps44
  go_wp2_with fail
  refine wp_schedL (fun w' => w'.cell? ⟨p, 0, none⟩ = some (.slice (some ⟨g, o, none⟩) 2 k) ∧ w'.cell? ⟨g, o, none⟩ = some (.int .i64 a) ∧ w'.cell? ⟨g, o + 1, none⟩ = some (.int .i64 b)) [(0, true), (1, true), (2, true), (3, true), (4, true), (5, true), (6, true), (7, true), (8, true), (9, true), (10, true), (11, true), (12, false), (13, true), (14, true), (15, true), (16, true), (17, true), (18, true), (19, true)] (by kernel_rfl) (by kernel_rfl) rfl (by kernel_rfl) (by kernel_rfl) ⟨c0, c1, c2⟩ (fun _ d _ _ _ h => by cases d <;> exact h) ?_
  simp only [schedOps, List.filterMap_cons, List.filterMap_nil, List.getElem?_toArray, List.getElem?_cons_zero, List.getElem?_cons_succ, Option.map_some]
  repeat (first | (refine' wpSched_take _ (by rfl) (fun wS hS => ?_) ?_; rotate_left; (focus (obtain ⟨j0, j1, j2⟩ := hS; go_simp; first | done | rfl)); (try simp only [Act.put, List.setIfInBounds_toArray, List.set_cons_zero, List.set_cons_succ])) | (refine wpSched_skip (by rfl) ?_; try simp only [Act.put, List.setIfInBounds_toArray, List.set_cons_zero, List.set_cons_succ]))
  refine wpSched_run (fun K hK => ?_)
  go_wp2_with (go_at_call 64; refine (hf _ (hm.below (Below.refl _ _).drew)).mono ?_; rintro e w1 ⟨ov, rfl, hown, hb1⟩)
  have gg := fun {x : Addr} {v : Value} (h : w.cell? x = some v) => fsm_below_cell (W := w.drew) hb1 h
  refine QRun_normal (hK.out _ _ ⟨gg c0, gg c1, gg c2⟩ ?_)
  clear hK K
  repeat (first | (refine' wpSched_take _ (by rfl) (fun wS hS => ?_) ?_; rotate_left; (focus (obtain ⟨j0, j1, j2⟩ := hS; go_simp; first | done | rfl)); (try simp only [Act.put, List.setIfInBounds_toArray, List.set_cons_zero, List.set_cons_succ])) | (refine wpSched_skip (by rfl) ?_; try simp only [Act.put, List.setIfInBounds_toArray, List.set_cons_zero, List.set_cons_succ]))
  refine wpSched_done ?_
  have hB1 := seqB (Below.refl _ w).drew hb1
  have hat := hown.at
  clear gg hown hf hb1
  go_wp2_with fail
  refine (hi _ (ht.below hB1)).mono ?_
  rintro e w2 ⟨rfl, hb2⟩
  have hB2 := seqB hB1 hb2
  have hat2 := hat.below hb2
  clear hat
  rcases hat2 with ⟨rfl, rfl⟩ | ⟨G, O, C, rfl, hc⟩
  · go_wp2_with fail
    go_loopw [7, 31] (fun v i wr => i = .int .i64 0 ∧ v = .string (bytesOf (itoaM T)) ∧ wr = w2) (fun _ i _ => 0)
    case atStart => exact ⟨rfl, rfl, rfl⟩
    case round =>
      obtain ⟨rfl, rfl, rfl⟩ := hrel
      go_wp2_with fail
      go_ret2
      exact ⟨by rw [show actsW [] = [] from rfl, List.append_nil]; rfl, hB2⟩
  · go_wp2_with fail
    go_loopw [7, 31] (fun v i wr => ∃ (k : Nat) (A : List UInt8), k ≤ L.length ∧ i = .int .i64 k ∧ v = .string (bytesOf A) ∧ Hid (A = itoaM T ++ actsW (L.take k)) ∧ Below w2.heap.size w2 wr) (fun _ i _ => L.length - (intOf i).toNat)
    case atStart => exact ⟨0, itoaM T, Nat.zero_le _, rfl, rfl, Lib.hid (by rw [List.take_zero]; simp [actsW]), Below.refl _ _⟩
    case round =>
      obtain ⟨k, A, hk, rfl, rfl, hA, hbl⟩ := hrel
      by_cases hlt : k < L.length
      · have h1 := (hbl.cell (block_lt_of_cell (hc k hlt))).trans (hc k hlt)
        have hsn := Lib.hid (acts_snoc L k hlt)
        have hxr := hLx L[k] (List.getElem_mem _)
        have hAl : A.length ≤ 1000 := by
          have h1 := hA.out
          have h2 := acts_size (L.take k)
          have h3 := itoa_len T
          rw [List.length_take] at h2
          rw [h1, List.length_append]
          omega
        obtain ⟨x, hx⟩ : ∃ x, L[k] = x := ⟨_, rfl⟩
        rw [hx] at h1 hsn hxr
        clear hx
        have hix := fun w (ht : TabW w) => itoa_any x (by omega) (by omega) w ht
        obtain ⟨s1, s2, s3⟩ := str_ret A (itoaM x) w hAl (by have := itoa_len x; omega)
        go_wp2_with fail
        refine (hix _ (ht.below (seqB hB2 hbl))).mono ?_
        rintro e w3 ⟨rfl, hb3⟩
        go_wp2_with fail
        go_roundw
        case rel =>
          exact ⟨k + 1, A ++ 32 :: itoaM x, by omega, by go_num, rfl, Lib.hid (by rw [hsn.out, ← List.append_assoc, ← hA.out]), seqB hbl hb3⟩
        case measure => simp [intOf]; omega
      · obtain rfl : k = L.length := by omega
        go_wp2_with fail
        go_ret2
        exact ⟨by rw [hA.out, List.take_length]; rfl, seqB hB2 hbl⟩
end Go.Proofs.YteigigepmoicaaaGreatDoor
