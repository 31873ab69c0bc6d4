/- The law's hex, wrong: walked. -/
import Derived.Test.YteigigepmoicaaaGreatDoorMg1
import Derived.Test.YteigigepmoicaaaGreatDoorCon2
import Derived.Test.YteigigepmoicaaaGreatDoorHeldL
namespace Go.Proofs.YteigigepmoicaaaGreatDoor
open Go.RowKit
set_option linter.unusedVariables false
set_option linter.unusedSimpArgs false
theorem digs_nat2 (n : Nat) (h : n < 16) : (⟨#[48, 49, 50, 51, 52, 53, 54, 55, 56, 57, 97, 98, 99, 100, 101, 102]⟩ : ByteArray).data.toList.getD n 0 = hexd n := by
  have : ∀ n : Fin 16, (⟨#[48, 49, 50, 51, 52, 53, 54, 55, 56, 57, 97, 98, 99, 100, 101, 102]⟩ : ByteArray).data.toList.getD n.val 0 = hexd n.val := by decide +kernel
  exact this ⟨n, h⟩
set_option maxHeartbeats 1000000 in
theorem lhex_any (s : ByteArray) (w : World) (hs : 2 * s.size ≤ 140737488355328) :
    Calls Tryz.prog 16 #[.string s] w fun e w' => e = .returned (.string (bytesOf (hexM s.data.toList))) ∧ Below w.heap.size w w' := by
  by_cases h0 : s = ⟨#[]⟩
  · subst h0
    go_enter Tryz.func16, Tryz.ntmps16
    go_wp2_with fail
    go_ret
    exact ⟨rfl, Below.refl _ _⟩
  · have hne : s.toList.isEmpty = false := by
      rw [ba_toList]
      cases h : s.data.toList with
      | nil => exact absurd (congrArg ByteArray.mk (Array.toList_eq_nil_iff.1 h)) h0
      | cons c l => rfl
    have hx : hexM s.data.toList = hexL s.data.toList := by
      unfold hexM
      rw [if_neg]
      intro e
      apply h0
      cases s with
      | mk d =>
        simp only [List.isEmpty_iff, Array.toList_eq_nil_iff] at e
        rw [e]
    have HX := Lib.hid hx
    clear hx h0
    go_enter Tryz.func16, Tryz.ntmps16
    go_wp2_with fail
    go_loopw [4, 5] (fun v i wr => ∃ k : Nat, k ≤ s.size ∧ i = .int .i64 k ∧ Own wr w.heap.size v (hexL (s.data.toList.take k)) ∧ Below w.heap.size w wr) (fun _ i _ => s.size - (intOf i).toNat)
    case atStart => exact ⟨0, Nat.zero_le _, rfl, Own.nil _ _, Below.refl _ _⟩
    case round =>
      obtain ⟨k, hk, rfl, hown, hbl⟩ := hrel
      have hlen : (hexL (s.data.toList.take k)).length ≤ 2 * k := by
        rw [hexL_length, List.length_take]
        omega
      obtain ⟨va, vc, rfl⟩ := hown.form
      by_cases hlt : k < s.size
      · have HS : Hid (hexL (s.data.toList.take (k + 1)) = hexL (s.data.toList.take k) ++ [hexd (s[k].toNat / 16), hexd (s[k].toNat % 16)]) := Lib.hid (by
          rw [take_snoc s k hlt, hexL_snoc]; simp)
        have hlt2 := s[k].toNat_lt
        have hw1 : IntKind.u8.wrap ((s[k].toNat : Int) / 16) = ((s[k].toNat / 16 : Nat) : Int) := by rw [IntKind.wrap_u8]; omega
        obtain ⟨q, hq⟩ : ∃ q, s[k].toNat / 16 = q := ⟨_, rfl⟩
        obtain ⟨r, hr⟩ : ∃ r, s[k].toNat % 16 = r := ⟨_, rfl⟩
        have hw2 : (s[k].toNat : Int).tmod 16 = (r : Int) := by rw [Int.tmod_eq_emod_of_nonneg (by omega)]; omega
        rw [hq] at hw1 HS
        rw [hr] at HS
        have hq16 : q < 16 := by omega
        have hr16 : r < 16 := by omega
        have hq16i : (q : Int) < 16 := by omega
        have hr16i : (r : Int) < 16 := by omega
        clear hq hr
        go_wp2_with fail
        refine wp_schedL (fun w' => True) [(0, true), (1, true), (2, true), (3, true), (4, true), (5, true), (6, true), (7, true), (8, true), (9, true), (10, true), (11, true), (12, true), (13, false), (14, false), (15, true)] (by kernel_rfl) (by kernel_rfl) rfl (by kernel_rfl) (by kernel_rfl) trivial (fun _ d _ _ _ h => by cases d <;> exact h) ?_
        simp only [schedOps, List.filterMap_cons, List.filterMap_nil, List.getElem?_toArray, List.getElem?_cons_zero, List.getElem?_cons_succ, Option.map_some]
        repeat (first | (refine' wpSched_take _ (by rfl) (fun wS hS => ?_) ?_; rotate_left; (focus (obtain _ := hS; go_simp; first | done | rfl)); (try simp only [Act.put, List.setIfInBounds_toArray, List.set_cons_zero, List.set_cons_succ])) | (refine wpSched_skip (by rfl) ?_; try simp only [Act.put, List.setIfInBounds_toArray, List.set_cons_zero, List.set_cons_succ]))
        rw [digs_nat, digs_nat]
        refine wpSched_run (fun K hK => ?_)
        go_wp2_with fail
        refine QRun_normal (hK.out _ _ trivial ?_)
        clear hK K
        repeat (first | (refine' wpSched_take _ (by rfl) (fun wS hS => ?_) ?_; rotate_left; (focus (obtain _ := hS; go_simp; first | done | rfl)); (try simp only [Act.put, List.setIfInBounds_toArray, List.set_cons_zero, List.set_cons_succ])) | (refine wpSched_skip (by rfl) ?_; try simp only [Act.put, List.setIfInBounds_toArray, List.set_cons_zero, List.set_cons_succ]))
        refine wpSched_run (fun K hK => ?_)
        go_wp2_with (at_builtin; refine wpList_app rfl _ _ rfl w _ _ [hexd q, hexd r] 2 _ _ (hown.below (Below.refl _ _).drew) rfl rfl rfl rfl (by simp; omega) hbl.drew ?_; intro v' w1 hown1 hbl1)
        refine QRun_normal (hK.out _ _ trivial ?_)
        clear hK K
        repeat (first | (refine' wpSched_take _ (by rfl) (fun wS hS => ?_) ?_; rotate_left; (focus (obtain _ := hS; go_simp; first | done | rfl)); (try simp only [Act.put, List.setIfInBounds_toArray, List.set_cons_zero, List.set_cons_succ])) | (refine wpSched_skip (by rfl) ?_; try simp only [Act.put, List.setIfInBounds_toArray, List.set_cons_zero, List.set_cons_succ]))
        refine wpSched_done ?_
        go_wp2_with fail
        go_roundw
        case rel => exact ⟨k + 1, by omega, by go_num, by rw [HS.out]; exact hown1, hbl1⟩
        case measure => simp [intOf]; omega
      · obtain rfl : k = s.size := by omega
        have e : s.data.toList.take s.size = s.data.toList := List.take_of_length_le (by simp)
        rw [e] at hown ⊢
        clear e
        have hcv := hown.conv
        go_wp2_with fail
        go_ret
        exact ⟨by rw [HX.out]; rfl, hbl⟩
theorem err_cat' (e : Int) : ((⟨#[101, 114, 114, 111, 114, 32]⟩ : ByteArray) ++ bytesOf (itoaM e)) = bytesOf ([101, 114, 114, 111, 114, 32] ++ itoaM e) := by
  rw [← bytesOf_append]; rfl
theorem itoa_len' (n : Int) : (itoaM n).length ≤ 21 := by
  unfold itoaM
  split
  · have := decF_len' 20 n.natAbs; simp; omega
  · have := decF_len' 20 n.toNat; omega
theorem err_size' (e : Int) : ¬ 9223372036854775807 < 6 + (bytesOf (itoaM e)).size := by
  have := itoa_len' e
  rw [bytesOf_size]; omega
theorem wrong_any (n : Int) (h0 : 0 ≤ n) (h1 : n ≤ 9223372036854775807) (w : World) :
    Calls Tryz.prog 23 #[.int .i64 n] w fun e w' => e = .returned (.string (bytesOf ([101, 114, 114, 111, 114, 32] ++ itoaM n))) ∧ Below w.heap.size w w' := by
  have hd := fun w => decimal_any n h0 h1 w
  have hs := err_size' n
  have hc := err_cat' n
  go_enter Tryz.func23, Tryz.ntmps23
  go_wp2_with fail
  refine (hd w).mono ?_
  rintro e w1 ⟨rfl, hb1⟩
  go_wp2_with fail
  go_ret
  exact ⟨rfl, hb1⟩
end Go.Proofs.YteigigepmoicaaaGreatDoor
