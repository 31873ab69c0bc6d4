/- Itoa; delays; targets: walked. -/
import Derived.Test.YteigigepmoicaaaGreatDoorMg4
import Derived.Test.YteigigepmoicaaaGreatDoorCon2
import Derived.Lib.SmallJoins
namespace Go.Proofs.YteigigepmoicaaaGreatDoor
open Go.RowKit
set_option linter.unusedVariables false
set_option linter.unusedSimpArgs false
/-- the library's table of powers of ten lies there -/
def TabW (w : World) : Prop := Lib.TabIs Tryz.prog w "internal/strconv.uint64pow10" .u64 Lib.pow10Tab
theorem TabW.below {w w' : World} (h : TabW w) (hb : Below w.heap.size w w') : TabW w' := Go.Joins.tab_stays (g := 3) (by kernel_rfl) h hb (Nat.le_refl _)
theorem grow_below (w : World) (k : Nat) (os : Array Obj) : Below w.heap.size w (Go.Sort.grow (w.drewN k) os) := by
  refine ⟨rfl, rfl, rfl, ?_, fun i hi => ?_⟩
  · unfold Go.Sort.grow; simp [World.drewN]
  · unfold Go.Sort.grow; simp only [World.drewN]; rw [Array.getElem?_append_left hi]
theorem itoa_any (n : Int) (h0 : -9223372036854775808 ≤ n) (h1 : n ≤ 9223372036854775807) (w : World) (ht : TabW w) :
    Calls Tryz.prog 50 #[.int .i64 n] w fun e w' => e = .returned (.string (bytesOf (itoaM n))) ∧ Below w.heap.size w w' := by
  refine (Any.strconv_Itoa lays171 n h0 h1 w ht).mono ?_
  rintro e w' ⟨rfl, k, os, rfl⟩
  exact ⟨by rw [itoaM_eq n h0 h1]; rfl, grow_below _ _ _⟩
theorem wrapd (x j : Int) (h1 : 1 ≤ x) (h2 : x ≤ 4096) (h3 : 0 ≤ j) : wrap64 (x - j % (x / 4 + 1)) = x - j % (x / 4 + 1) := by
  have h4 := Int.emod_nonneg j (b := x / 4 + 1) (by omega)
  have h5 := Int.emod_lt_of_pos j (b := x / 4 + 1) (by omega)
  exact IntWalk.wrap64_in _ ⟨by omega, by omega⟩
set_option maxHeartbeats 2000000 in
theorem delay_any (t b m j : Int) (w : World) (hj : j ≤ 9223372036854775807) :
    Calls Tryz.prog 66 #[.int .i64 t, .int .i64 b, .int .i64 m, .int .i64 j] w fun e w' => e = .returned (.tuple #[.int .i64 (delayM t b m j).1, .int .i64 (delayM t b m j).2]) ∧ w' = w := by
  by_cases h0 : t < 0
  · have HD : Hid (delayM t b m j = (0, 1200)) := Lib.hid (delay_bad (.inl h0))
    go_enter Tryz.func66, Tryz.ntmps66
    go_wp2_with fail
    go_ret2
    exact ⟨by rw [HD.out]; rfl, rfl⟩
  by_cases h1 : 62 < t
  · have HD : Hid (delayM t b m j = (0, 1200)) := Lib.hid (delay_bad (.inr (.inl h1)))
    go_enter Tryz.func66, Tryz.ntmps66
    go_wp2_with fail
    go_ret2
    exact ⟨by rw [HD.out]; rfl, rfl⟩
  by_cases h2 : b < 1
  · have HD : Hid (delayM t b m j = (0, 1200)) := Lib.hid (delay_bad (.inr (.inr (.inl h2))))
    go_enter Tryz.func66, Tryz.ntmps66
    go_wp2_with fail
    go_ret2
    exact ⟨by rw [HD.out]; rfl, rfl⟩
  by_cases h3 : 4096 < b
  · have HD : Hid (delayM t b m j = (0, 1200)) := Lib.hid (delay_bad (.inr (.inr (.inr (.inl h3)))))
    go_enter Tryz.func66, Tryz.ntmps66
    go_wp2_with fail
    go_ret2
    exact ⟨by rw [HD.out]; rfl, rfl⟩
  by_cases h4 : m < b
  · have HD : Hid (delayM t b m j = (0, 1200)) := Lib.hid (delay_bad (.inr (.inr (.inr (.inr (.inl h4))))))
    go_enter Tryz.func66, Tryz.ntmps66
    go_wp2_with fail
    go_ret2
    exact ⟨by rw [HD.out]; rfl, rfl⟩
  by_cases h5 : 4096 < m
  · have HD : Hid (delayM t b m j = (0, 1200)) := Lib.hid (delay_bad (.inr (.inr (.inr (.inr (.inr (.inl h5)))))))
    go_enter Tryz.func66, Tryz.ntmps66
    go_wp2_with fail
    go_ret2
    exact ⟨by rw [HD.out]; rfl, rfl⟩
  by_cases h6 : j < 0
  · have HD : Hid (delayM t b m j = (0, 1200)) := Lib.hid (delay_bad (.inr (.inr (.inr (.inr (.inr (.inr (h6))))))))
    go_enter Tryz.func66, Tryz.ntmps66
    go_wp2_with fail
    go_ret2
    exact ⟨by rw [HD.out]; rfl, rfl⟩
  have HD : Hid (delayM t b m j = (delayD t.toNat b m - j % (delayD t.toNat b m / 4 + 1), 0)) := Lib.hid (delay_good (by unfold delayBad; omega))
  obtain ⟨n, rfl⟩ : ∃ n : Nat, t = n := ⟨t.toNat, by omega⟩
  have hD0 : Hid (delayD ((n : Int).toNat) b m = delayD n b m) := Lib.hid rfl
  have hb1 : 1 ≤ b := by omega
  have hmb : b ≤ m := by omega
  have hm1 : m ≤ 4096 := by omega
  have hn1 : n ≤ 62 := by omega
  go_enter Tryz.func66, Tryz.ntmps66
  go_wp2_with fail
  go_loop [10, 40] (fun d i => ∃ (k : Nat) (x : Int), i = .int .i64 (k : Nat) ∧ d = .int .i64 x ∧ k ≤ n ∧ 1 ≤ x ∧ x ≤ m ∧ Hid (delayD (n - k) x m = delayD n b m)) (fun _ i => n - (intOf i).toNat)
  case atStart => exact ⟨0, b, rfl, rfl, Nat.zero_le _, hb1, hmb, Lib.hid rfl⟩
  case round =>
    obtain ⟨k, x, rfl, rfl, hk, hx1, hxm, HX⟩ := hrel
    by_cases hlt : k < n
    · by_cases hbig : m / 2 < x
      · have h2 : m.tdiv 2 < x := by rw [Int.tdiv_eq_ediv_of_nonneg (by omega)]; exact hbig
        have HF : Hid (delayD n b m = m) := Lib.hid (by
          rw [← HX.out, show n - k = (n - k - 1) + 1 by omega, delayD, if_pos hbig])
        go_wp2_with fail
        go_ret2
        exact ⟨by rw [HD.out, hD0.out, HF.out]; exact congrArg (fun v => Ending.returned (.tuple #[.int .i64 v, .int .i64 0])) (wrapd m j (by omega) hm1 (by omega)), rfl⟩
      · have h2 : ¬ m.tdiv 2 < x := by rw [Int.tdiv_eq_ediv_of_nonneg (by omega)]; exact hbig
        have HF : Hid (delayD (n - (k + 1)) (x * 2) m = delayD n b m) := Lib.hid (by
          rw [← HX.out, show n - k = (n - (k + 1)) + 1 by omega, delayD, if_neg hbig])
        have hx2 : x * 2 ≤ m := by omega
        go_wp2_with fail
        go_round
        case rel => exact ⟨k + 1, x * 2, by go_num, by go_num, by omega, by omega, hx2, HF⟩
        case measure => simp [intOf]; omega
    · have HF : Hid (delayD n b m = x) := Lib.hid (by
        rw [← HX.out, show n - k = 0 by omega, delayD])
      go_wp2_with fail
      go_ret2
      exact ⟨by rw [HD.out, hD0.out, HF.out]; exact congrArg (fun v => Ending.returned (.tuple #[.int .i64 v, .int .i64 0])) (wrapd x j hx1 (by omega) (by omega)), rfl⟩
set_option maxHeartbeats 2000000 in
theorem rdelay_any (t b m j : Int) (w : World) (hj : j ≤ 9223372036854775807) :
    Calls Tryz.prog 21 #[.int .i64 t, .int .i64 b, .int .i64 m, .int .i64 j] w fun e w' => e = .returned (.tuple #[.int .i64 (delayM t b m j).1, .int .i64 (delayM t b m j).2]) ∧ w' = w := by
  by_cases h0 : t < 0
  · have HD : Hid (delayM t b m j = (0, 1200)) := Lib.hid (delay_bad (.inl h0))
    go_enter Tryz.func21, Tryz.ntmps21
    go_wp2_with fail
    go_ret2
    exact ⟨by rw [HD.out]; rfl, rfl⟩
  by_cases h1 : 62 < t
  · have HD : Hid (delayM t b m j = (0, 1200)) := Lib.hid (delay_bad (.inr (.inl h1)))
    go_enter Tryz.func21, Tryz.ntmps21
    go_wp2_with fail
    go_ret2
    exact ⟨by rw [HD.out]; rfl, rfl⟩
  by_cases h2 : b < 1
  · have HD : Hid (delayM t b m j = (0, 1200)) := Lib.hid (delay_bad (.inr (.inr (.inl h2))))
    go_enter Tryz.func21, Tryz.ntmps21
    go_wp2_with fail
    go_ret2
    exact ⟨by rw [HD.out]; rfl, rfl⟩
  by_cases h3 : 4096 < b
  · have HD : Hid (delayM t b m j = (0, 1200)) := Lib.hid (delay_bad (.inr (.inr (.inr (.inl h3)))))
    go_enter Tryz.func21, Tryz.ntmps21
    go_wp2_with fail
    go_ret2
    exact ⟨by rw [HD.out]; rfl, rfl⟩
  by_cases h4 : m < b
  · have HD : Hid (delayM t b m j = (0, 1200)) := Lib.hid (delay_bad (.inr (.inr (.inr (.inr (.inl h4))))))
    go_enter Tryz.func21, Tryz.ntmps21
    go_wp2_with fail
    go_ret2
    exact ⟨by rw [HD.out]; rfl, rfl⟩
  by_cases h5 : 4096 < m
  · have HD : Hid (delayM t b m j = (0, 1200)) := Lib.hid (delay_bad (.inr (.inr (.inr (.inr (.inr (.inl h5)))))))
    go_enter Tryz.func21, Tryz.ntmps21
    go_wp2_with fail
    go_ret2
    exact ⟨by rw [HD.out]; rfl, rfl⟩
  by_cases h6 : j < 0
  · have HD : Hid (delayM t b m j = (0, 1200)) := Lib.hid (delay_bad (.inr (.inr (.inr (.inr (.inr (.inr (h6))))))))
    go_enter Tryz.func21, Tryz.ntmps21
    go_wp2_with fail
    go_ret2
    exact ⟨by rw [HD.out]; rfl, rfl⟩
  have HD : Hid (delayM t b m j = (delayD t.toNat b m - j % (delayD t.toNat b m / 4 + 1), 0)) := Lib.hid (delay_good (by unfold delayBad; omega))
  obtain ⟨n, rfl⟩ : ∃ n : Nat, t = n := ⟨t.toNat, by omega⟩
  have hD0 : Hid (delayD ((n : Int).toNat) b m = delayD n b m) := Lib.hid rfl
  have hb1 : 1 ≤ b := by omega
  have hmb : b ≤ m := by omega
  have hm1 : m ≤ 4096 := by omega
  have hn1 : n ≤ 62 := by omega
  have HR := Lib.hid (refD_eq n b m hb1 hmb)
  go_enter Tryz.func21, Tryz.ntmps21
  go_wp2_with fail
  go_loop [10, 11] (fun d i => ∃ (k : Nat) (x : Int), i = .int .i64 (k : Nat) ∧ d = .int .i64 x ∧ k ≤ n ∧ 1 ≤ x ∧ x ≤ 8192 ∧ Hid (refD (n - k) x m = refD n b m)) (fun _ i => n - (intOf i).toNat)
  case atStart => exact ⟨0, b, rfl, rfl, Nat.zero_le _, hb1, by omega, Lib.hid rfl⟩
  case round =>
    obtain ⟨k, x, rfl, rfl, hk, hx1, hxm, HX⟩ := hrel
    by_cases hlt : k < n
    · by_cases hbig : x < m
      · have HF : Hid (refD (n - (k + 1)) (x * 2) m = refD n b m) := Lib.hid (by
          rw [← HX.out, show n - k = (n - (k + 1)) + 1 by omega, refD, if_pos hbig, Int.mul_comm])
        have hx2 : x * 2 ≤ 8192 := by omega
        go_wp2_with fail
        go_round
        case rel => exact ⟨k + 1, x * 2, by go_num, by go_num, by omega, by omega, hx2, HF⟩
        case measure => simp [intOf]; omega
      · have HF : Hid (delayD n b m = m) := Lib.hid (by
          rw [← HR.out, ← HX.out, show n - k = (n - k - 1) + 1 by omega, refD, if_neg hbig]; omega)
        have hmn : min x m = m := by omega
        go_wp2_with fail
        go_ret2
        exact ⟨by rw [HD.out, hD0.out, HF.out]; exact congrArg (fun v => Ending.returned (.tuple #[.int .i64 v, .int .i64 0])) (wrapd m j (by omega) hm1 (by omega)), rfl⟩
    · obtain ⟨y, hy⟩ : ∃ y, min x m = y := ⟨_, rfl⟩
      have hy1 : 1 ≤ y ∧ y ≤ 4096 := by omega
      have HF : Hid (delayD n b m = y) := Lib.hid (by
        rw [← HR.out, ← HX.out, show n - k = 0 by omega, refD]; exact hy)
      go_wp2_with fail
      go_ret2
      exact ⟨by rw [HD.out, hD0.out, HF.out]; exact congrArg (fun v => Ending.returned (.tuple #[.int .i64 v, .int .i64 0])) (wrapd y j hy1.1 (by omega) (by omega)), rfl⟩
theorem in_any (x a b : Int) (w : World) : Calls Tryz.prog 89 #[.int .i64 x, .int .i64 a, .int .i64 b] w fun e w' => e = .returned (.bool (decide (a ≤ x) && decide (x ≤ b))) ∧ w' = w := by
  by_cases h1 : a ≤ x
  · by_cases h2 : x ≤ b
    · have e : (decide (a ≤ x) && decide (x ≤ b)) = true := by simp [h1, h2]
      rw [e]
      go_enter Tryz.func89, Tryz.ntmps89
      go_wp2_with fail
      go_ret
      exact ⟨rfl, rfl⟩
    · have e : (decide (a ≤ x) && decide (x ≤ b)) = false := by simp [h2]
      rw [e]
      go_enter Tryz.func89, Tryz.ntmps89
      go_wp2_with fail
      go_ret
      exact ⟨rfl, rfl⟩
  · have e : (decide (a ≤ x) && decide (x ≤ b)) = false := by simp [h1]
    rw [e]
    go_enter Tryz.func89, Tryz.ntmps89
    go_wp2_with fail
    go_ret
    exact ⟨rfl, rfl⟩
theorem shape_any (r a k : Int) (w : World) : Calls Tryz.prog 67 #[.int .i64 r, .int .i64 a, .int .i64 k] w fun e w' => e = .returned (.bool (shapeB r a k)) ∧ w' = w := by
  have h1 := fun w => in_any r 64 4096 w
  have h2 := fun w => in_any k 1 6 w
  have h3 := fun w => in_any a 1 k w
  have e : shapeB r a k = ((decide (64 ≤ r) && decide (r ≤ 4096)) && (decide (1 ≤ k) && decide (k ≤ 6)) && (decide (1 ≤ a) && decide (a ≤ k))) := by unfold shapeB; simp only [Bool.and_assoc]
  have E := Lib.hid e
  obtain ⟨b1, hb1⟩ : ∃ b, (decide (64 ≤ r) && decide (r ≤ 4096)) = b := ⟨_, rfl⟩
  obtain ⟨b2, hb2⟩ : ∃ b, (decide (1 ≤ k) && decide (k ≤ 6)) = b := ⟨_, rfl⟩
  obtain ⟨b3, hb3⟩ : ∃ b, (decide (1 ≤ a) && decide (a ≤ k)) = b := ⟨_, rfl⟩
  rw [hb1] at h1 e
  rw [hb2] at h2 e
  rw [hb3] at h3 e
  rw [e]
  clear e E hb1 hb2 hb3
  cases b1
  · go_enter Tryz.func67, Tryz.ntmps67
    go_wp2_with (go_at_call 89; refine (h1 _).mono ?_; rintro e w' ⟨rfl, rfl⟩)
    go_ret
    exact ⟨rfl, rfl⟩
  · cases b2
    · go_enter Tryz.func67, Tryz.ntmps67
      go_wp2_with fail
      refine (h1 _).mono ?_
      rintro e w' ⟨rfl, rfl⟩
      go_wp2_with fail
      refine (h2 _).mono ?_
      rintro e w' ⟨rfl, rfl⟩
      go_wp2_with fail
      go_ret
      exact ⟨rfl, rfl⟩
    · go_enter Tryz.func67, Tryz.ntmps67
      go_wp2_with fail
      refine (h1 _).mono ?_
      rintro e w' ⟨rfl, rfl⟩
      go_wp2_with fail
      refine (h2 _).mono ?_
      rintro e w' ⟨rfl, rfl⟩
      go_wp2_with fail
      refine (h3 _).mono ?_
      rintro e w' ⟨rfl, rfl⟩
      go_wp2_with fail
      go_ret
      exact ⟨by simp, rfl⟩
theorem count_any (x r a k : Int) (w : World) (hx0 : 0 ≤ x) (hx1 : x ≤ 9223372036854775806) (hr : 1 ≤ r) : Calls Tryz.prog 68 #[.int .i64 x, .int .i64 r, .int .i64 a, .int .i64 k] w fun e w' => e = .returned (.int .i64 (targetN x r a k)) ∧ w' = w := by
  have hr0 : ¬ r = 0 := by omega
  have hq : x.tdiv r = x / r := Int.tdiv_eq_ediv_of_nonneg hx0
  have hm : x.tmod r = x % r := Int.tmod_eq_emod_of_nonneg hx0
  have hq0 : 0 ≤ x / r := Int.ediv_nonneg hx0 (by omega)
  have hq1 : x / r ≤ x := Int.ediv_le_self r hx0
  have HT : Hid (targetN x r a k = min (max (x / r + if 0 < x % r then 1 else 0) a) k) := Lib.hid rfl
  obtain ⟨q, hqq⟩ : ∃ q, x / r = q := ⟨_, rfl⟩
  obtain ⟨z, hzz⟩ : ∃ z, x % r = z := ⟨_, rfl⟩
  rw [hqq] at hq hq0 hq1 HT
  rw [hzz] at hm HT
  clear hqq hzz
  by_cases hz : 0 < z
  · rw [if_pos hz] at HT
    go_enter Tryz.func68, Tryz.ntmps68
    go_wp2_with fail
    go_ret
    refine ⟨?_, rfl⟩
    rw [HT.out]
    exact congrArg (fun v => Ending.returned (.int .i64 v)) (by omega)
  · rw [if_neg hz] at HT
    go_enter Tryz.func68, Tryz.ntmps68
    go_wp2_with fail
    go_ret
    refine ⟨?_, rfl⟩
    rw [HT.out]
    exact congrArg (fun v => Ending.returned (.int .i64 v)) (by omega)
theorem rtarget_any (x r a k : Int) (w : World) (hx0 : 0 ≤ x) (hx1 : x ≤ 9223372036854775806) (hr : 1 ≤ r) (hak : a ≤ k) : Calls Tryz.prog 22 #[.int .i64 x, .int .i64 r, .int .i64 a, .int .i64 k] w fun e w' => e = .returned (.int .i64 (targetN x r a k)) ∧ w' = w := by
  have hr0 : ¬ r = 0 := by omega
  have hq : x.tdiv r = x / r := Int.tdiv_eq_ediv_of_nonneg hx0
  have hm : x.tmod r = x % r := Int.tmod_eq_emod_of_nonneg hx0
  have hq0 : 0 ≤ x / r := Int.ediv_nonneg hx0 (by omega)
  have hq1 : x / r ≤ x := Int.ediv_le_self r hx0
  have HT : Hid (targetN x r a k = min (max (x / r + if 0 < x % r then 1 else 0) a) k) := Lib.hid rfl
  obtain ⟨q, hqq⟩ : ∃ q, x / r = q := ⟨_, rfl⟩
  obtain ⟨z, hzz⟩ : ∃ z, x % r = z := ⟨_, rfl⟩
  rw [hqq] at hq hq0 hq1 HT
  rw [hzz] at hm HT
  clear hqq hzz
  by_cases hz : 0 < z
  · rw [if_pos hz] at HT
    go_enter Tryz.func22, Tryz.ntmps22
    go_wp2_with fail
    go_ret
    refine ⟨?_, rfl⟩
    rw [HT.out]
    exact congrArg (fun v => Ending.returned (.int .i64 v)) (by omega)
  · rw [if_neg hz] at HT
    go_enter Tryz.func22, Tryz.ntmps22
    go_wp2_with fail
    go_ret
    refine ⟨?_, rfl⟩
    rw [HT.out]
    exact congrArg (fun v => Ending.returned (.int .i64 v)) (by omega)
end Go.Proofs.YteigigepmoicaaaGreatDoor
