/- Contracts of the reference's sums: Fcs, Sum, Unsum; and Num. -/
import Derived.Test.YteigigepmoicaaaGreatDoorFcs
namespace Go.Proofs.YteigigepmoicaaaGreatDoor
open Go.RowKit Go.Crc
theorem and1_i64 (x : Nat) (h : x < 65536) : bits BinOp.and IntKind.i64 (x : Int) 1 = ((x % 2 : Nat) : Int) := by
  have := i64_and_nat x 1 (by omega) (by omega)
  rw [nat_mask1] at this
  simpa using this
theorem raw_take2 (s : ByteArray) (k : Nat) (h : k < s.size) : raw (s.data.toList.take (k + 1)) = fit 8 (raw (s.data.toList.take k) ^^^ s[k].toNat) := by
  have e : s.data.toList.take (k + 1) = s.data.toList.take k ++ [s[k]] := by
    rw [List.take_succ_eq_append_getElem (by simpa using h)]; rfl
  rw [e, raw_snoc]; rfl
set_option maxHeartbeats 400000 in
theorem rfcs_any (s : ByteArray) (w : World) (hs : s.size ≤ maxLen) :
    Calls Tryz.prog 18 #[.string s] w fun e w' => e = .returned (.int .i64 (fcs s.data.toList)) ∧ w = w' := by
  unfold maxLen at hs
  go_enter Tryz.func18, Tryz.ntmps18
  go_wp2
  go_loop [3, 4] (fun x i => ∃ k c : Nat, k ≤ s.size ∧ i = .int .i64 k ∧ x = .int .i64 c ∧ Hid (c = raw (s.data.toList.take k))) (fun _ i => s.size - (intOf i).toNat)
  case atStart => exact ⟨0, 65535, Nat.zero_le _, rfl, rfl, rfl⟩
  case round =>
    obtain ⟨k, c, hk, rfl, rfl, hc⟩ := hrel
    have hc16 : c < 65536 := by have := raw_lt (s.data.toList.take k); rw [← hc.out] at this; exact this
    by_cases hlt : k < s.size
    · have hb8 : s[k].toNat < 256 := s[k].toNat_lt
      have hx1 : bits BinOp.xor IntKind.i64 (c : Int) (s[k].toNat : Int) = ((c ^^^ s[k].toNat : Nat) : Int) := i64_xor_nat c _ (by omega) (by omega)
      have hl := raw_take2 s k hlt
      rw [← hc.out] at hl
      have Hl := Lib.hid hl
      clear hl
      have hd16 : c ^^^ s[k].toNat < 65536 := Nat.xor_lt_two_pow (n := 16) hc16 (by omega)
      go_wp2
      go_loop [3, 5] (fun x i => ∃ j d : Nat, j ≤ 8 ∧ i = .int .i64 j ∧ x = .int .i64 d ∧ Hid (d = fit j (c ^^^ s[k].toNat))) (fun _ i => 8 - (intOf i).toNat)
      case atStart => exact ⟨0, c ^^^ s[k].toNat, by omega, rfl, rfl, rfl⟩
      case round =>
        obtain ⟨j, d, hj, rfl, rfl, hd⟩ := hrel
        have h1 : d < 65536 := by rw [hd.out]; exact fit_lt j hd16
        clear hx1
        by_cases hj8 : j < 8
        · have hs : Hid (fstep d = fit (j + 1) (c ^^^ s[k].toNat)) := by rw [hd.out, fit_succ']; exact rfl
          rcases Nat.mod_two_eq_zero_or_one d with hp | hp
          · have ha : bits BinOp.and IntKind.i64 (d : Int) 1 = 0 := by rw [and1_i64 _ h1, hp]; rfl
            have hq : Hid (fstep d = d / 2) := by unfold fstep; rw [if_neg (by omega)]; exact rfl
            clear hp
            go_wp2
            go_round
            case rel => exact ⟨j + 1, d / 2, by omega, by go_num, by go_num, hq.out.symm.trans hs.out⟩
            case measure => simp [intOf]; omega
          · have ha : bits BinOp.and IntKind.i64 (d : Int) 1 = 1 := by rw [and1_i64 _ h1, hp]; rfl
            have hx : bits BinOp.xor IntKind.i64 ((d : Int) / 2) 33800 = ((d / 2 ^^^ 33800 : Nat) : Int) := by
              have := i64_xor_nat (d / 2) 33800 (by omega) (by omega)
              simpa using this
            have hq : Hid (fstep d = d / 2 ^^^ 33800) := by unfold fstep; rw [if_pos hp]; exact rfl
            clear hp
            go_wp2
            go_round
            case rel => exact ⟨j + 1, _, by omega, by go_num, rfl, hq.out.symm.trans hs.out⟩
            case measure => simp [intOf]; omega
        · obtain rfl : j = 8 := by omega
          go_wp2
          go_round
          case rel => exact ⟨k + 1, d, by omega, by go_num, rfl, hd.out.trans Hl.out.symm⟩
          case measure => simp [intOf]; omega
    · obtain rfl : k = s.size := by omega
      have hx3 : bits BinOp.xor IntKind.i64 (c : Int) 65535 = ((c ^^^ 65535 : Nat) : Int) := by
        have := i64_xor_nat c 65535 (by omega) (by omega)
        simpa using this
      have hfin : Hid (fcs s.data.toList = c ^^^ 65535) := by
        unfold fcs; rw [hc.out, List.take_of_length_le (by simp)]; exact rfl
      go_wp2
      go_ret
      exact ⟨by rw [hfin.out]; rfl, rfl⟩
set_option maxHeartbeats 400000 in
theorem sum_any (s : ByteArray) (w : World) (hs : s.size + 2 ≤ maxLen) :
    Calls Tryz.prog 55 #[.string s] w fun e w' => e = .returned (.string (bytesOf (put s.data.toList))) ∧ Below w.heap.size w w' := by
  unfold maxLen at hs
  have hf := fcs_lt s.data.toList
  have hcv : ∀ (w : World) (a b : Int), (convert 27 9 (.slice (some ⟨w.heap.size, 0, none⟩) 2 2)).run Tryz.prog (w.alloc (.cells #[.int .u8 a, .int .u8 b] 5)) = .ok (.string (strOfNums [a, b])) (w.alloc (.cells #[.int .u8 a, .int .u8 b] 5)) :=
    fun w a b => conv_row w _ _ _ Tryz.underlying27 Tryz.underlying5 Tryz.underlying9 [a, b] 2 rfl
  have hs2 : ∀ a b : Int, (strOfNums [a, b]).size = 2 := fun a b => strOfNums_size _
  have ha : bits BinOp.and IntKind.i64 (fcs s.data.toList : Int) 255 = (fcs s.data.toList : Int) % 256 := i64_low _ 8 (by omega)
  go_enter Tryz.func55, Tryz.ntmps55
  go_wp2_with fail
  refine (rfcs_any _ _ (by unfold maxLen; omega)).mono ?_
  rintro e w1 ⟨rfl, rfl⟩
  go_wp2
  go_ret
  refine ⟨?_, (Below.refl _ _).alloc (Nat.le_refl _) _⟩
  show Ending.returned (Value.string _) = _
  congr 2
set_option maxHeartbeats 400000 in
theorem unsum_any (s : ByteArray) (w : World) (hs : s.size ≤ maxLen) :
    Calls Tryz.prog 58 #[.string s] w fun e w' => e = .returned (.tuple #[.string (bytesOf (chk s.data.toList).1), .int .i64 (chk s.data.toList).2]) ∧ Below w.heap.size w w' := by
  unfold maxLen at hs
  have hsz : s.data.toList.length = s.size := len_toList s
  by_cases h2 : s.size < 2
  · have hc : Hid (chk s.data.toList = ([], 100)) := by unfold chk; rw [if_pos (by omega)]; exact rfl
    clear hsz
    go_enter Tryz.func58, Tryz.ntmps58
    go_wp2
    go_ret2
    exact ⟨by rw [hc.out]; rfl, Below.refl _ _⟩
  · have hps := prefix_size s (s.size - 2) (by omega)
    have Hps := Lib.hid hps
    clear hps
    by_cases hp : put (s.data.toList.take (s.data.toList.length - 2)) = s.data.toList
    · have hc : Hid (chk s.data.toList = (s.data.toList.take (s.size - 2), 0)) := by unfold chk; rw [if_neg (by omega), if_pos hp, hsz]; exact rfl
      have hq : ((bytesOf (put (s.data.toList.take (s.size - 2)))).toList == s.toList) = true := ba_beq_true (by rw [hsz] at hp; exact hp)
      clear hsz hp
      go_enter Tryz.func58, Tryz.ntmps58
      go_wp2_with fail
      refine (sum_any _ _ (by unfold maxLen; rw [Hps.out]; omega)).mono ?_
      rintro e w1 ⟨rfl, hb⟩
      rw [prefix_toList]
      go_wp2
      go_ret2
      exact ⟨by rw [hc.out, ← prefix_bytes]; rfl, hb⟩
    · have hc : Hid (chk s.data.toList = ([], 101)) := by unfold chk; rw [if_neg (by omega), if_neg hp]; exact rfl
      have hq : ((bytesOf (put (s.data.toList.take (s.size - 2)))).toList == s.toList) = false := ba_beq_false (by rw [hsz] at hp; exact hp)
      clear hsz hp
      go_enter Tryz.func58, Tryz.ntmps58
      go_wp2_with fail
      refine (sum_any _ _ (by unfold maxLen; rw [Hps.out]; omega)).mono ?_
      rintro e w1 ⟨rfl, hb⟩
      rw [prefix_toList]
      go_wp2
      go_ret2
      exact ⟨by rw [hc.out]; rfl, hb⟩
theorem num_any (x : Int) (w : World) : Calls Tryz.prog 12 #[.int .i64 x] w fun e w' => e = .returned (.int .i64 x) ∧ w = w' := by
  go_enter Tryz.func12, Tryz.ntmps12
  go_wp2
  go_ret
  exact ⟨rfl, rfl⟩
end Go.Proofs.YteigigepmoicaaaGreatDoor
