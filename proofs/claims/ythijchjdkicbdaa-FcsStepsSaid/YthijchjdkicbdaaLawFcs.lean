/- The walks of the laws over fcs. -/
import Derived.Test.YthijchjdkicbdaaFcsRef
import Derived.Deep.RegionHeld3
import Derived.Deep.DeepCutAuto
import Derived.Deep.RegionWith
namespace Go.Proofs.Ythijchjdkicbdaa
open Go.RowKit Go.Crc
theorem chk_put (l : List UInt8) : chk (put l) = (l, 0) := by
  have h : ¬ (put l).length < 2 := by rw [put_length]; omega
  have e : (put l).take ((put l).length - 2) = l := by rw [put_length]; simp [put]
  unfold chk; rw [if_neg h, e, if_pos rfl]
theorem fcs_known : fcs [49, 50, 51, 52, 53, 54, 55, 56, 57] = 36974 := by decide +kernel
theorem chk_a : chk [97] = ([], 100) := by decide +kernel
theorem chk_abc : chk [97, 98, 99] = ([], 101) := by decide +kernel
set_option maxHeartbeats 400000 in
theorem awake1_any (w : World) : Calls Try.prog 21 #[] w fun e w' => e = .returned (.bool true) ∧ Below w.heap.size w w' := by
  have e1 := chk_a
  have e2 := chk_abc
  have e3 : chk (put [97, 98, 99]) = ([97, 98, 99], 0) := chk_put _
  have e4 := fcs_known
  go_enter Try.func21, Try.ntmps21
  go_wp2_with fail
  refine (check_any _ _ (by decide)).mono ?_
  rintro e w1 ⟨rfl, hb1⟩
  go_wp2_with fail
  refine (check_any _ _ (by decide)).mono ?_
  rintro e w2 ⟨rfl, hb2⟩
  go_wp2_with fail
  refine (put_any _ _ (by decide)).mono ?_
  rintro e w3 ⟨rfl, hb3⟩
  go_wp2_with fail
  refine (check_any _ _ ?_).mono ?_
  · rw [bytesOf_size, put_length]; decide
  rintro e w4 ⟨rfl, hb4⟩
  go_wp2_with fail
  refine (of_any _ _ (by decide)).mono ?_
  rintro e w5 ⟨rfl, hb5⟩
  simp only [bytesOf_toList, e3, e4]
  have hq : ((bytesOf [97, 98, 99]).toList == [97, 98, 99]) = true := by rw [ba_toList]; rfl
  go_wp2_with (go_at_call 20; refine (num_any _ _).mono ?_; rintro e w' ⟨rfl, rfl⟩)
  go_ret
  exact ⟨rfl, seqB (seqB (seqB (seqB hb1 hb2) hb3) hb4) hb5⟩
set_option maxHeartbeats 400000 in
theorem fcsAll_walk (s : ByteArray) (w : World) (hs : s.size + 2 ≤ maxLen) :
    Calls Try.prog 3 #[.string s] w fun e w' => e = .returned (.bool true) ∧ Below w.heap.size w w' := by
  have hs1 : s.size ≤ maxLen := by omega
  have hs2 := hs
  unfold maxLen at hs
  go_enter Try.func3, Try.ntmps3
  go_wp2_with fail
  refine (check_any _ _ hs1).mono ?_
  rintro e w1 ⟨rfl, hb1⟩
  go_wp2_with fail
  refine (unsum_any _ _ hs1).mono ?_
  rintro e w2 ⟨rfl, hb2⟩
  go_wp2_with fail
  refine (of_any _ _ hs1).mono ?_
  rintro e w3 ⟨rfl, hb3⟩
  go_wp2_with fail
  refine (rfcs_any _ _ hs1).mono ?_
  rintro e w4 ⟨rfl, rfl⟩
  go_wp2_with fail
  refine (put_any _ _ hs2).mono ?_
  rintro e w5 ⟨rfl, hb5⟩
  go_wp2_with fail
  refine (sum_any _ _ hs2).mono ?_
  rintro e w6 ⟨rfl, hb6⟩
  go_wp2_with fail
  refine (num_any _ _).mono ?_
  rintro e w7 ⟨rfl, rfl⟩
  go_wp2_with fail
  refine (awake1_any _).mono ?_
  rintro e w8 ⟨rfl, hb8⟩
  go_wp2_with fail
  go_ret
  exact ⟨rfl, seqB (seqB (seqB (seqB (seqB hb1 hb2) hb3) hb5) hb6) hb8⟩
set_option maxHeartbeats 400000 in
theorem fcsResidue_walk (s t : ByteArray) (w : World) (hs : s.size + 2 ≤ maxLen) (ht : t.size + 2 ≤ maxLen) :
    Calls Try.prog 6 #[.string s, .string t] w fun e w' => e = .returned (.bool true) ∧ Below w.heap.size w w' := by
  have hp : ∀ l, fcs (put l) = fit 16 65535 ^^^ 65535 := fun l => by unfold fcs; rw [raw_put]
  have hsp : (bytesOf (put s.data.toList)).size ≤ maxLen := by rw [bytesOf_size, put_length, len_toList]; exact hs
  have htp : (bytesOf (put t.data.toList)).size ≤ maxLen := by rw [bytesOf_size, put_length, len_toList]; exact ht
  have hnp : (bytesOf (put ByteArray.empty.data.toList)).size ≤ maxLen := by rw [bytesOf_size, put_length]; decide
  have Hp := Lib.hid hp
  clear hp
  go_enter Try.func6, Try.ntmps6
  go_wp2_with fail
  refine (awake1_any _).mono ?_
  rintro e w1 ⟨rfl, hb1⟩
  go_wp2_with fail
  refine (put_any _ _ hs).mono ?_
  rintro e w2 ⟨rfl, hb2⟩
  go_wp2_with fail
  refine (of_any _ _ hsp).mono ?_
  rintro e w3 ⟨rfl, hb3⟩
  rw [bytesOf_toList, Hp.out]
  go_wp2_with fail
  refine (put_any _ _ ht).mono ?_
  rintro e w4 ⟨rfl, hb4⟩
  go_wp2_with fail
  refine (of_any _ _ htp).mono ?_
  rintro e w5 ⟨rfl, hb5⟩
  rw [bytesOf_toList, Hp.out]
  go_wp2_with fail
  refine (put_any _ _ hs).mono ?_
  rintro e w6 ⟨rfl, hb6⟩
  go_wp2_with fail
  refine (of_any _ _ hsp).mono ?_
  rintro e w7 ⟨rfl, hb7⟩
  rw [bytesOf_toList, Hp.out]
  go_wp2_with fail
  refine (put_any _ _ (by decide)).mono ?_
  rintro e w8 ⟨rfl, hb8⟩
  go_wp2_with fail
  refine (of_any _ _ hnp).mono ?_
  rintro e w9 ⟨rfl, hb9⟩
  rw [bytesOf_toList, Hp.out]
  go_wp2_with fail
  refine (num_any _ _).mono ?_
  rintro e w10 ⟨rfl, rfl⟩
  go_wp2_with fail
  go_ret
  exact ⟨rfl, seqB (seqB (seqB (seqB (seqB (seqB (seqB (seqB hb1 hb2) hb3) hb4) hb5) hb6) hb7) hb8) hb9⟩
theorem byte_of (c : Int) : ∃ b : UInt8, c % 256 = (b.toNat : Int) := by
  refine ⟨UInt8.ofNat (c % 256).toNat, ?_⟩
  rw [UInt8.toNat_ofNat']; omega
set_option maxHeartbeats 400000 in
theorem fcsSteps_walk (s : ByteArray) (c : Int) (w : World) (hs : s.size + 2 ≤ maxLen) :
    Calls Try.prog 5 #[.string s, .int .i64 c] w fun e w' => e = .returned (.bool true) ∧ Below w.heap.size w w' := by
  obtain ⟨b, hb⟩ := byte_of c
  have hb8 : b.toNat < 256 := b.toNat_lt
  have hr := raw_lt s.data.toList
  have hx0 : bits BinOp.xor IntKind.i64 (fcs s.data.toList : Int) 65535 = (raw s.data.toList : Int) := by
    have := i64_xor_nat (fcs s.data.toList) 65535 (by have := fcs_lt s.data.toList; omega) (by omega)
    have e : fcs s.data.toList ^^^ 65535 = raw s.data.toList := by unfold fcs; rw [Nat.xor_assoc, Nat.xor_self, Nat.xor_zero]
    rw [e] at this
    simpa using this
  have ha : bits BinOp.and IntKind.i64 c 255 = (b.toNat : Int) := (i64_low c 8 (by omega)).trans hb
  have hx1 : bits BinOp.xor IntKind.i64 (raw s.data.toList : Int) (b.toNat : Int) = ((raw s.data.toList ^^^ b.toNat : Nat) : Int) := i64_xor_nat _ _ (by omega) (by omega)
  have hd16 : raw s.data.toList ^^^ b.toNat < 65536 := Nat.xor_lt_two_pow (n := 16) hr (by omega)
  have hs1 : s.size ≤ maxLen := by omega
  unfold maxLen at hs
  have Hb := Lib.hid hb
  clear hb
  go_enter Try.func5, Try.ntmps5
  go_wp2_with fail
  refine (awake1_any _).mono ?_
  rintro e w1 ⟨rfl, hb1⟩
  go_wp2_with fail
  refine (of_any _ _ hs1).mono ?_
  rintro e w2 ⟨rfl, hb2⟩
  go_wp2_with fail
  clear hx0 ha hx1
  go_loop [5, 6] (fun x i => ∃ j d : Nat, j ≤ 8 ∧ i = .int .i64 j ∧ x = .int .i64 d ∧ Hid (d = fit j (raw s.data.toList ^^^ b.toNat))) (fun _ i => 8 - (intOf i).toNat)
  case atStart => exact ⟨0, raw s.data.toList ^^^ b.toNat, by omega, rfl, rfl, rfl⟩
  case round =>
    obtain ⟨j, d, hj, rfl, rfl, hd⟩ := hrel
    have h1 : d < 65536 := by rw [hd.out]; exact fit_lt j hd16
    by_cases hj8 : j < 8
    · have hst : Hid (fstep d = fit (j + 1) (raw s.data.toList ^^^ b.toNat)) := by rw [hd.out, fit_succ']; exact rfl
      rcases Nat.mod_two_eq_zero_or_one d with hp | hp
      · have ha : bits BinOp.and IntKind.i64 (d : Int) 1 = 0 := by rw [and1_i64 _ h1, hp]; rfl
        have hq : Hid (fstep d = d / 2) := by unfold fstep; rw [if_neg (by omega)]; exact rfl
        clear hp
        go_wp2
        go_round
        case rel => exact ⟨j + 1, d / 2, by omega, by go_num, by go_num, hq.out.symm.trans hst.out⟩
        case measure => simp [intOf]; omega
      · have ha : bits BinOp.and IntKind.i64 (d : Int) 1 = 1 := by rw [and1_i64 _ h1, hp]; rfl
        have hx : bits BinOp.xor IntKind.i64 ((d : Int) / 2) 33800 = ((d / 2 ^^^ 33800 : Nat) : Int) := by
          have := i64_xor_nat (d / 2) 33800 (by omega) (by omega)
          simpa using this
        have hq : Hid (fstep d = d / 2 ^^^ 33800) := by unfold fstep; rw [if_pos hp]; exact rfl
        clear hp
        go_wp2
        go_round
        case rel => exact ⟨j + 1, _, by omega, by go_num, rfl, hq.out.symm.trans hst.out⟩
        case measure => simp [intOf]; omega
    · obtain rfl : j = 8 := by omega
      have hcv : ∀ (w : World) (a : Int), (convert 33 9 (.slice (some ⟨w.heap.size, 0, none⟩) 1 1)).run Try.prog (w.alloc (.cells #[.int .u8 a] 5)) = .ok (.string (strOfNums [a])) (w.alloc (.cells #[.int .u8 a] 5)) :=
        fun w a => conv_row w _ _ _ Try.underlying33 Try.underlying5 Try.underlying9 [a] 1 rfl
      have hs2 : ∀ a : Int, (strOfNums [a]).size = 1 := fun a => strOfNums_size _
      have hx3 : bits BinOp.xor IntKind.i64 (d : Int) 65535 = ((d ^^^ 65535 : Nat) : Int) := by
        have := i64_xor_nat d 65535 (by omega) (by omega)
        simpa using this
      have hfin : Hid (fcs (s ++ strOfNums [c % 256]).data.toList = d ^^^ 65535) := by
        have e : (s ++ strOfNums [c % 256]).data.toList = s.data.toList ++ [b] := by
          rw [ByteArray.data_append, Array.toList_append, strOfNums_data, Hb.out]
          congr 1
          simp
        unfold fcs
        rw [e, raw_snoc, hd.out]; exact rfl
      have hsz : (s ++ strOfNums [c % 256]).size ≤ maxLen := by
        rw [← len_toList, ByteArray.data_append, Array.toList_append, List.length_append, len_toList, strOfNums_data]; simp; unfold maxLen; omega
      have Hsz := Lib.hid hsz
      clear hsz
      have hn : fcs [] = 0 := fcs_nil
      go_wp2_with fail
      refine (of_any _ _ Hsz.out).mono ?_
      rintro e w3 ⟨rfl, hb3⟩
      rw [hfin.out]
      go_wp2_with fail
      refine (of_any _ _ (by decide)).mono ?_
      rintro e w4 ⟨rfl, hb4⟩
      go_wp2_with fail
      go_ret
      refine ⟨?_, seqB (seqB (seqB hb1 hb2) (hb3.mono (by simp) |> fun h => ((Below.refl _ _).alloc (Nat.le_refl _) _).trans h)) hb4⟩
      show Ending.returned (Value.bool _) = _
      rfl
/-- two bytes in a row, wherever they lie -/
theorem conv_two (W : World) (k : Nat) (a b : Int) (ha : W.cell? ⟨k, 0, none⟩ = some (.int .u8 a)) (hb : W.cell? ⟨k, 1, none⟩ = some (.int .u8 b)) :
    (convert 33 9 (.slice (some ⟨k, 0, none⟩) 2 2)).run Try.prog W = .ok (.string (strOfNums [a, b])) W :=
  run_convert_bytes_arg W _ _ Try.underlying33 Try.underlying5 k 0 2 2 [a, b] rfl (fun i hi => by
    match i, hi with
    | 0, _ => simpa using ha
    | 1, _ => simpa using hb) _ Try.underlying9
theorem conv_one (W : World) (k : Nat) (a : Int) (ha : W.cell? ⟨k, 0, none⟩ = some (.int .u8 a)) :
    (convert 33 9 (.slice (some ⟨k, 0, none⟩) 1 1)).run Try.prog W = .ok (.string (strOfNums [a])) W :=
  run_convert_bytes_arg W _ _ Try.underlying33 Try.underlying5 k 0 1 1 [a] rfl (fun i hi => by
    match i, hi with
    | 0, _ => simpa using ha) _ Try.underlying9
set_option maxHeartbeats 400000 in
theorem fcsShorts_walk (a b : Int) (w : World) :
    Calls Try.prog 7 #[.int .i64 a, .int .i64 b] w fun e w' => e = .returned (.bool true) ∧ Below w.heap.size w w' := by
  have c0 : chk [] = ([], 100) := by decide
  have c1 : ∀ x : Int, chk (strOfNums [x]).data.toList = ([], 100) := fun x => by unfold chk; rw [if_pos (by simp [strOfNums_data])]
  have hs1 : ∀ x : Int, (strOfNums [x]).size = 1 := fun a => strOfNums_size _
  have hs2 : ∀ x y : Int, (strOfNums [x, y]).size = 2 := fun x y => strOfNums_size _
  have hcv1 := conv_one
  have hcv2 := conv_two
  have hwa : IntKind.u8.wrap a = a % 256 := IntKind.wrap_u8' a
  have hwb : IntKind.u8.wrap b = b % 256 := IntKind.wrap_u8' b
  by_cases hr : put [] = (strOfNums [a % 256, b % 256]).data.toList
  · have c2 : chk (strOfNums [a % 256, b % 256]).data.toList = ([], 0) := by
      rw [← hr]; exact chk_put []
    have hq : ((bytesOf (put [])).toList == (strOfNums [a % 256, b % 256]).toList) = true := ba_beq_true hr
    clear hr
    go_enter Try.func7, Try.ntmps7
    go_wp2_with fail
    refine (awake1_any _).mono ?_
    rintro e w1 ⟨rfl, hb1⟩
    go_wp2_with fail
    refine (check_any _ _ (by decide)).mono ?_
    rintro e w2 ⟨rfl, hb2⟩
    go_wp2_with fail
    refine (check_any _ _ (by rw [hs1]; decide)).mono ?_
    rintro e w3 ⟨rfl, hb3⟩
    rw [c1]
    go_wp2_with fail
    refine (check_any _ _ (by rw [hs2]; decide)).mono ?_
    rintro e w4 ⟨rfl, hb4⟩
    rw [c2]
    go_wp2_with fail
    go_cut [11] (fun r wx => r = .bool true ∧ Below w.heap.size w wx)
    case first =>
      go_region_with ((go_at_call 18; refine (put_any _ _ (by decide)).mono ?_; rintro e w5 ⟨rfl, hb5⟩; obtain ⟨hc5, hf5⟩ := bcell hb5))
      all_goals
        go_wp2_with fail
        go_meet
        exact ⟨rfl, by repeat (first | exact Below.refl _ _ | apply allocB | apply drewB | refine seqB ?_ (by assumption))⟩
    case rest =>
      obtain ⟨rfl, hbx⟩ := hcut
      have hne : (bytesOf []).toList = [] := ba_toList _
      go_wp2_with (go_at_call 20; refine (num_any _ _).mono ?_; rintro e w' ⟨rfl, rfl⟩)
      go_ret
      exact ⟨rfl, hbx⟩
  · have c2 : chk (strOfNums [a % 256, b % 256]).data.toList = ([], 101) := by
      unfold chk
      have hl : (strOfNums [a % 256, b % 256]).data.toList.length = 2 := by rw [len_toList, hs2]
      rw [if_neg (by omega), hl, if_neg (by simpa using hr)]
    have hq : ((bytesOf (put [])).toList == (strOfNums [a % 256, b % 256]).toList) = false := ba_beq_false hr
    clear hr
    go_enter Try.func7, Try.ntmps7
    go_wp2_with fail
    refine (awake1_any _).mono ?_
    rintro e w1 ⟨rfl, hb1⟩
    go_wp2_with fail
    refine (check_any _ _ (by decide)).mono ?_
    rintro e w2 ⟨rfl, hb2⟩
    go_wp2_with fail
    refine (check_any _ _ (by rw [hs1]; decide)).mono ?_
    rintro e w3 ⟨rfl, hb3⟩
    rw [c1]
    go_wp2_with fail
    refine (check_any _ _ (by rw [hs2]; decide)).mono ?_
    rintro e w4 ⟨rfl, hb4⟩
    rw [c2]
    go_wp2_with fail
    go_cut [11] (fun r wx => r = .bool false ∧ Below w.heap.size w wx)
    case first =>
      go_region_with ((go_at_call 18; refine (put_any _ _ (by decide)).mono ?_; rintro e w5 ⟨rfl, hb5⟩; obtain ⟨hc5, hf5⟩ := bcell hb5))
      all_goals
        go_wp2_with fail
        go_meet
        exact ⟨rfl, by repeat (first | exact Below.refl _ _ | apply allocB | apply drewB | refine seqB ?_ (by assumption))⟩
    case rest =>
      obtain ⟨rfl, hbx⟩ := hcut
      have hne : (bytesOf []).toList = [] := ba_toList _
      go_wp2_with (go_at_call 20; refine (num_any _ _).mono ?_; rintro e w' ⟨rfl, rfl⟩)
      go_ret
      exact ⟨rfl, hbx⟩
end Go.Proofs.Ythijchjdkicbdaa
