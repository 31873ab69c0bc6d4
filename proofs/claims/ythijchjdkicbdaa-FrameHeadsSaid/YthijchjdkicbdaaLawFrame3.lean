/- The walk of FrameHeads. -/
import Derived.Test.YthijchjdkicbdaaLawFrame2
namespace Go.Proofs.Ythijchjdkicbdaa
open Go.RowKit Go.Crc
theorem byte_of3 (c : Int) : ∃ b : UInt8, c % 256 = (b.toNat : Int) := ⟨byteAt c, (byteAt_nat c).symm⟩
def zeros (n : Nat) : List UInt8 := List.replicate n 0
def zrowN (n : Nat) : Array Value := madeCells #[.int .u8 0] n
theorem make_zeros (j : Nat) (hj : j < 4) (w : World) : (Instr.makeSlice 33 (.int .i64 (2047 + (j : Int))) (.int .i64 (2047 + (j : Int)))).run Try.prog w = .ok (.slice (some ⟨w.heap.size, 0, none⟩) (2047 + j) (2047 + j)) (w.alloc (.cells (zrowN (2047 + j)) 5)) := by
  obtain ⟨i0, hi, hz0, hz1, hz2⟩ := info_parts infoU8
  have h := run_make w 33 5 i0 (.int .u8 0) Try.underlying33 hi hz0 .i64 .i64 (2047 + (j : Int)) (2047 + (j : Int)) (by omega) (by omega) (by rw [hz2]; omega) (by omega)
  have e : (2047 + (j : Int)).toNat = 2047 + j := by omega
  rw [e, hz1, Nat.mul_one] at h
  exact h
theorem conv_zeros (n : Nat) (w : World) : (convert 33 9 (.slice (some ⟨w.heap.size, 0, none⟩) n n)).run Try.prog (w.alloc (.cells (zrowN n) 5)) = .ok (.string (bytesOf (zeros n))) (w.alloc (.cells (zrowN n) 5)) := by
  have hl : (zeros n).length = n := by simp [zeros]
  have h := run_convert_bytes_back (P := Try.prog) (w.alloc (.cells (zrowN n) 5)) 33 9 5 ⟨w.heap.size, 0, none⟩ n (zeros n) Try.underlying33 Try.underlying5 Try.underlying9 (fun j hj => by
    have hadd : (⟨w.heap.size, 0, none⟩ : Addr).add j = ⟨w.heap.size, j, none⟩ := by unfold Addr.add; split <;> simp_all
    rw [hadd, World.cell?_alloc_new]
    have hj' : j < n := by rw [hl] at hj; exact hj
    simp [zrowN, madeCells, hj', zeros, Nat.mod_one])
  rw [hl] at h
  exact h
theorem conv_zeros1 (n : Nat) (w : World) (o : Obj) : (convert 33 9 (.slice (some ⟨w.heap.size + 1, 0, none⟩) n n)).run Try.prog ((w.alloc o).alloc (.cells (zrowN n) 5)) = .ok (.string (bytesOf (zeros n))) ((w.alloc o).alloc (.cells (zrowN n) 5)) := by
  have h := conv_zeros n (w.alloc o)
  rw [World.size_alloc] at h
  exact h
theorem heads_unhead (x y : UInt8) (r : List UInt8) (h : ¬ (x = 255 ∧ y = 3)) : unhead (x :: y :: r) = (0, [], 302) := by
  unfold unhead
  rw [if_pos]
  intro e
  injection e with e1 e2
  injection e2 with e2 e3
  exact h ⟨e1, e2⟩
theorem heads_text (x y : UInt8) : ∃ T, stuff 0 (put [x, y, 0, 33, 100, 97, 116, 97]) = T ∧ unframe T = unhead [x, y, 0, 33, 100, 97, 116, 97] ∧ T.length ≤ 20 := by
  refine ⟨_, rfl, unframe_stuff _ _ (by simp), ?_⟩
  have := stuff_length 0 (put [x, y, 0, 33, 100, 97, 116, 97])
  rw [put_length] at this
  simpa using this
theorem zeros_put (j : Nat) : (frameT 33 (zeros (2047 + j)) 0).2 = if j ≤ 1 then 0 else 304 := by
  unfold frameT
  rw [if_neg (by decide)]
  have hl : (zeros (2047 + j)).length = 2047 + j := by simp [zeros]
  rw [hl]
  by_cases h : j ≤ 1
  · rw [if_neg (by omega), if_pos h]
  · rw [if_pos (by omega), if_neg h]
theorem abcde_get : unframe [97, 98, 99, 100, 101] = (0, [], 300) := by decide +kernel
set_option maxRecDepth 100000 in
set_option maxHeartbeats 2000000 in
theorem frameHeads_right (a b many : Int) (w : World) (x y : UInt8) (hx : a % 256 = (x.toNat : Int)) (hy : b % 256 = (y.toNat : Int)) (j : Nat) (hj : many % 4 = (j : Int)) (hj4 : j < 4) (h1 : x = 255) (h2 : y = 3) :
    Calls Try.prog 12 #[.int .i64 a, .int .i64 b, .int .i64 many] w fun e w' => e = .returned (.bool true) ∧ Below w.heap.size w w' := by
  have hu : unhead [x, y, 0, 33, 100, 97, 116, 97] = (33, [100, 97, 116, 97], 0) := by subst h1 h2; decide
  have e1 : ((x.toNat : Int) == 255) = true := by subst h1; rfl
  have e2 : ((y.toNat : Int) == 3) = true := by subst h2; rfl
  have HU := Lib.hid hu
  clear hu h1 h2
  have hm : bits BinOp.and IntKind.i64 many 3 = (j : Int) := (i64_low many 2 (by omega)).trans hj
  obtain ⟨T, hT, hTu, hTl⟩ := heads_text x y
  have HT := Lib.hid hT
  have HTu := Lib.hid hTu
  clear hT hTu hj
  have yT : (bytesOf T).size ≤ 140737488355328 := by rw [bytesOf_size]; omega
  have hmk := make_zeros j hj4
  have hcz := conv_zeros1 (2047 + j)
  have hcv := conv4
  have hs4 : ∀ a b c d : Int, (strOfNums [a, b, c, d]).size = 4 := fun a b c d => strOfNums_size _
  have hzs : (bytesOf (zeros (2047 + j))).size ≤ maxLen := by rw [bytesOf_size]; simp [zeros, maxLen]; omega
  have hL : (strOfNums [(x.toNat : Int), (y.toNat : Int), 0, 33] ++ ⟨#[100, 97, 116, 97]⟩).data.toList = [x, y, 0, 33, 100, 97, 116, 97] := by
    rw [ByteArray.data_append, Array.toList_append, strOfNums_data]; simp
  have HL := Lib.hid hL
  clear hL
  go_enter Try.func12, Try.ntmps12
  go_wp2_with fail
  refine (awake3_any _).mono ?_
  rintro e w1 ⟨rfl, hb1⟩
  go_wp2_with fail
  refine (sum_any _ _ (by rw [ByteArray.size_append, hs4]; decide)).mono ?_
  rintro e w2 ⟨rfl, hb2⟩
  rw [HL.out]
  have hB2 := seqB (allocB hb1 _) hb2
  clear hb1 hb2
  go_wp2_with fail
  refine (rstuff_any _ _ _ (by rw [bytesOf_size, put_length]; simp)).mono ?_
  rintro e w3 ⟨rfl, hb3⟩
  rw [bytesOf_toList, HT.out]
  have hB3 := seqB hB2 hb3
  clear hB2 hb3
  go_wp2_with fail
  refine (fget_any _ _ yT).mono ?_
  rintro e w4 ⟨rfl, hb4⟩
  rw [bytesOf_toList, HTu.out, HU.out]
  unfold ansF
  have hB4 := seqB hB3 hb4
  clear hB3 hb4
  go_wp2_with fail
  refine (fput_any _ _ _ _ hzs).mono ?_
  rintro e w5 ⟨rfl, hb5⟩
  rw [bytesOf_toList]
  generalize (frameT 33 (zeros (2047 + j)) 0).2 = cc
  generalize (frameT 33 (zeros (2047 + j)) 0).1 = Z
  have p0 := below_cell hb5 (a := ⟨w4.heap.size, 0, none⟩) (v := .int .i64 33) (by simp [go_sem])
  have p1 := below_cell hb5 (a := ⟨w4.heap.size, 1, none⟩) (v := .string (bytesOf [100, 97, 116, 97])) (by simp [go_sem])
  have hlt5 := block_lt_of_cell p0
  have hB5 := seqB (allocB (allocB hB4 _) _) hb5
  clear hB4 hb5
  go_wp2_with fail
  refine (fget_any _ _ (by decide)).mono ?_
  rintro e w6 ⟨rfl, hb6⟩
  have e6 : unframe (⟨#[97, 98, 99, 100, 101]⟩ : ByteArray).data.toList = (0, [], 300) := abcde_get
  rw [e6]
  clear e6
  unfold ansF
  replace p0 := below_cell hb6 p0
  replace p1 := below_cell hb6 p1
  have hlt6 := block_lt_of_cell p0
  have hB6 := seqB hB5 hb6
  clear hB5 hb6
  go_wp2_with (go_at_call 20; refine (num_any _ _).mono ?_; rintro e w' ⟨rfl, rfl⟩)
  go_ret
  exact ⟨rfl, allocB hB6 _⟩
set_option maxRecDepth 100000 in
set_option maxHeartbeats 2000000 in
theorem frameHeads_bad10 (a b many : Int) (w : World) (x y : UInt8) (hx : a % 256 = (x.toNat : Int)) (hy : b % 256 = (y.toNat : Int)) (j : Nat) (hj : many % 4 = (j : Int)) (hj4 : j < 4) (h1 : ¬ (x = 255 ∧ y = 3)) (h2 : x ≠ 255) (h3 : j ≤ 1) :
    Calls Try.prog 12 #[.int .i64 a, .int .i64 b, .int .i64 many] w fun e w' => e = .returned (.bool true) ∧ Below w.heap.size w w' := by
  have hu : unhead [x, y, 0, 33, 100, 97, 116, 97] = (0, [], 302) := heads_unhead x y _ h1
  have e1 : ((x.toNat : Int) == 255) = false := u8_beq h2
  have HU := Lib.hid hu
  clear hu h1 h2
  have hm : bits BinOp.and IntKind.i64 many 3 = (j : Int) := (i64_low many 2 (by omega)).trans hj
  obtain ⟨T, hT, hTu, hTl⟩ := heads_text x y
  have HT := Lib.hid hT
  have HTu := Lib.hid hTu
  clear hT hTu hj
  have yT : (bytesOf T).size ≤ 140737488355328 := by rw [bytesOf_size]; omega
  have hmk := make_zeros j hj4
  have hcz := conv_zeros1 (2047 + j)
  have hcv := conv4
  have hs4 : ∀ a b c d : Int, (strOfNums [a, b, c, d]).size = 4 := fun a b c d => strOfNums_size _
  have hzs : (bytesOf (zeros (2047 + j))).size ≤ maxLen := by rw [bytesOf_size]; simp [zeros, maxLen]; omega
  have Hzp : Hid ((frameT 33 (zeros (2047 + j)) 0).2 = 0) := by rw [zeros_put, if_pos h3]; exact rfl
  have hL : (strOfNums [(x.toNat : Int), (y.toNat : Int), 0, 33] ++ ⟨#[100, 97, 116, 97]⟩).data.toList = [x, y, 0, 33, 100, 97, 116, 97] := by
    rw [ByteArray.data_append, Array.toList_append, strOfNums_data]; simp
  have HL := Lib.hid hL
  clear hL
  go_enter Try.func12, Try.ntmps12
  go_wp2_with fail
  refine (awake3_any _).mono ?_
  rintro e w1 ⟨rfl, hb1⟩
  go_wp2_with fail
  refine (sum_any _ _ (by rw [ByteArray.size_append, hs4]; decide)).mono ?_
  rintro e w2 ⟨rfl, hb2⟩
  rw [HL.out]
  have hB2 := seqB (allocB hb1 _) hb2
  clear hb1 hb2
  go_wp2_with fail
  refine (rstuff_any _ _ _ (by rw [bytesOf_size, put_length]; simp)).mono ?_
  rintro e w3 ⟨rfl, hb3⟩
  rw [bytesOf_toList, HT.out]
  have hB3 := seqB hB2 hb3
  clear hB2 hb3
  go_wp2_with fail
  refine (fget_any _ _ yT).mono ?_
  rintro e w4 ⟨rfl, hb4⟩
  rw [bytesOf_toList, HTu.out, HU.out]
  unfold ansF
  have hB4 := seqB hB3 hb4
  clear hB3 hb4
  go_wp2_with fail
  refine (fput_any _ _ _ _ hzs).mono ?_
  rintro e w5 ⟨rfl, hb5⟩
  rw [bytesOf_toList, Hzp.out]
  generalize (frameT 33 (zeros (2047 + j)) 0).1 = Z
  have p0 := below_cell hb5 (a := ⟨w4.heap.size, 0, none⟩) (v := .int .i64 0) (by simp [go_sem])
  have p1 := below_cell hb5 (a := ⟨w4.heap.size, 1, none⟩) (v := .string (bytesOf [])) (by simp [go_sem])
  have hlt5 := block_lt_of_cell p0
  have hB5 := seqB (allocB (allocB hB4 _) _) hb5
  clear hB4 hb5
  go_wp2_with fail
  refine (fget_any _ _ (by decide)).mono ?_
  rintro e w6 ⟨rfl, hb6⟩
  have e6 : unframe (⟨#[97, 98, 99, 100, 101]⟩ : ByteArray).data.toList = (0, [], 300) := abcde_get
  rw [e6]
  clear e6
  unfold ansF
  replace p0 := below_cell hb6 p0
  replace p1 := below_cell hb6 p1
  have hlt6 := block_lt_of_cell p0
  have hB6 := seqB hB5 hb6
  clear hB5 hb6
  have hne : (bytesOf []).toList = [] := ba_toList _
  go_wp2_with (go_at_call 20; refine (num_any _ _).mono ?_; rintro e w' ⟨rfl, rfl⟩)
  go_ret
  exact ⟨rfl, allocB hB6 _⟩
set_option maxRecDepth 100000 in
set_option maxHeartbeats 2000000 in
theorem frameHeads_bad11 (a b many : Int) (w : World) (x y : UInt8) (hx : a % 256 = (x.toNat : Int)) (hy : b % 256 = (y.toNat : Int)) (j : Nat) (hj : many % 4 = (j : Int)) (hj4 : j < 4) (h1 : ¬ (x = 255 ∧ y = 3)) (h2 : x ≠ 255) (h3 : ¬ j ≤ 1) :
    Calls Try.prog 12 #[.int .i64 a, .int .i64 b, .int .i64 many] w fun e w' => e = .returned (.bool true) ∧ Below w.heap.size w w' := by
  have hu : unhead [x, y, 0, 33, 100, 97, 116, 97] = (0, [], 302) := heads_unhead x y _ h1
  have e1 : ((x.toNat : Int) == 255) = false := u8_beq h2
  have HU := Lib.hid hu
  clear hu h1 h2
  have hm : bits BinOp.and IntKind.i64 many 3 = (j : Int) := (i64_low many 2 (by omega)).trans hj
  obtain ⟨T, hT, hTu, hTl⟩ := heads_text x y
  have HT := Lib.hid hT
  have HTu := Lib.hid hTu
  clear hT hTu hj
  have yT : (bytesOf T).size ≤ 140737488355328 := by rw [bytesOf_size]; omega
  have hmk := make_zeros j hj4
  have hcz := conv_zeros1 (2047 + j)
  have hcv := conv4
  have hs4 : ∀ a b c d : Int, (strOfNums [a, b, c, d]).size = 4 := fun a b c d => strOfNums_size _
  have hzs : (bytesOf (zeros (2047 + j))).size ≤ maxLen := by rw [bytesOf_size]; simp [zeros, maxLen]; omega
  have Hzp : Hid ((frameT 33 (zeros (2047 + j)) 0).2 = 304) := by rw [zeros_put, if_neg h3]; exact rfl
  have hL : (strOfNums [(x.toNat : Int), (y.toNat : Int), 0, 33] ++ ⟨#[100, 97, 116, 97]⟩).data.toList = [x, y, 0, 33, 100, 97, 116, 97] := by
    rw [ByteArray.data_append, Array.toList_append, strOfNums_data]; simp
  have HL := Lib.hid hL
  clear hL
  go_enter Try.func12, Try.ntmps12
  go_wp2_with fail
  refine (awake3_any _).mono ?_
  rintro e w1 ⟨rfl, hb1⟩
  go_wp2_with fail
  refine (sum_any _ _ (by rw [ByteArray.size_append, hs4]; decide)).mono ?_
  rintro e w2 ⟨rfl, hb2⟩
  rw [HL.out]
  have hB2 := seqB (allocB hb1 _) hb2
  clear hb1 hb2
  go_wp2_with fail
  refine (rstuff_any _ _ _ (by rw [bytesOf_size, put_length]; simp)).mono ?_
  rintro e w3 ⟨rfl, hb3⟩
  rw [bytesOf_toList, HT.out]
  have hB3 := seqB hB2 hb3
  clear hB2 hb3
  go_wp2_with fail
  refine (fget_any _ _ yT).mono ?_
  rintro e w4 ⟨rfl, hb4⟩
  rw [bytesOf_toList, HTu.out, HU.out]
  unfold ansF
  have hB4 := seqB hB3 hb4
  clear hB3 hb4
  go_wp2_with fail
  refine (fput_any _ _ _ _ hzs).mono ?_
  rintro e w5 ⟨rfl, hb5⟩
  rw [bytesOf_toList, Hzp.out]
  generalize (frameT 33 (zeros (2047 + j)) 0).1 = Z
  have p0 := below_cell hb5 (a := ⟨w4.heap.size, 0, none⟩) (v := .int .i64 0) (by simp [go_sem])
  have p1 := below_cell hb5 (a := ⟨w4.heap.size, 1, none⟩) (v := .string (bytesOf [])) (by simp [go_sem])
  have hlt5 := block_lt_of_cell p0
  have hB5 := seqB (allocB (allocB hB4 _) _) hb5
  clear hB4 hb5
  go_wp2_with fail
  refine (fget_any _ _ (by decide)).mono ?_
  rintro e w6 ⟨rfl, hb6⟩
  have e6 : unframe (⟨#[97, 98, 99, 100, 101]⟩ : ByteArray).data.toList = (0, [], 300) := abcde_get
  rw [e6]
  clear e6
  unfold ansF
  replace p0 := below_cell hb6 p0
  replace p1 := below_cell hb6 p1
  have hlt6 := block_lt_of_cell p0
  have hB6 := seqB hB5 hb6
  clear hB5 hb6
  have hdec : decide (2047 + (j : Int) ≤ 2048) = false := decide_eq_false (by omega)
  have hne : (bytesOf []).toList = [] := ba_toList _
  go_wp2_with (go_at_call 20; refine (num_any _ _).mono ?_; rintro e w' ⟨rfl, rfl⟩)
  go_ret
  exact ⟨rfl, allocB hB6 _⟩
set_option maxRecDepth 100000 in
set_option maxHeartbeats 2000000 in
theorem frameHeads_bad20 (a b many : Int) (w : World) (x y : UInt8) (hx : a % 256 = (x.toNat : Int)) (hy : b % 256 = (y.toNat : Int)) (j : Nat) (hj : many % 4 = (j : Int)) (hj4 : j < 4) (h1 : ¬ (x = 255 ∧ y = 3)) (h2 : x = 255 ∧ y ≠ 3) (h3 : j ≤ 1) :
    Calls Try.prog 12 #[.int .i64 a, .int .i64 b, .int .i64 many] w fun e w' => e = .returned (.bool true) ∧ Below w.heap.size w w' := by
  have hu : unhead [x, y, 0, 33, 100, 97, 116, 97] = (0, [], 302) := heads_unhead x y _ h1
  have e1 : ((x.toNat : Int) == 255) = true := by rw [h2.1]; rfl
  have e2 : ((y.toNat : Int) == 3) = false := u8_beq h2.2
  have HU := Lib.hid hu
  clear hu h1 h2
  have hm : bits BinOp.and IntKind.i64 many 3 = (j : Int) := (i64_low many 2 (by omega)).trans hj
  obtain ⟨T, hT, hTu, hTl⟩ := heads_text x y
  have HT := Lib.hid hT
  have HTu := Lib.hid hTu
  clear hT hTu hj
  have yT : (bytesOf T).size ≤ 140737488355328 := by rw [bytesOf_size]; omega
  have hmk := make_zeros j hj4
  have hcz := conv_zeros1 (2047 + j)
  have hcv := conv4
  have hs4 : ∀ a b c d : Int, (strOfNums [a, b, c, d]).size = 4 := fun a b c d => strOfNums_size _
  have hzs : (bytesOf (zeros (2047 + j))).size ≤ maxLen := by rw [bytesOf_size]; simp [zeros, maxLen]; omega
  have Hzp : Hid ((frameT 33 (zeros (2047 + j)) 0).2 = 0) := by rw [zeros_put, if_pos h3]; exact rfl
  have hL : (strOfNums [(x.toNat : Int), (y.toNat : Int), 0, 33] ++ ⟨#[100, 97, 116, 97]⟩).data.toList = [x, y, 0, 33, 100, 97, 116, 97] := by
    rw [ByteArray.data_append, Array.toList_append, strOfNums_data]; simp
  have HL := Lib.hid hL
  clear hL
  go_enter Try.func12, Try.ntmps12
  go_wp2_with fail
  refine (awake3_any _).mono ?_
  rintro e w1 ⟨rfl, hb1⟩
  go_wp2_with fail
  refine (sum_any _ _ (by rw [ByteArray.size_append, hs4]; decide)).mono ?_
  rintro e w2 ⟨rfl, hb2⟩
  rw [HL.out]
  have hB2 := seqB (allocB hb1 _) hb2
  clear hb1 hb2
  go_wp2_with fail
  refine (rstuff_any _ _ _ (by rw [bytesOf_size, put_length]; simp)).mono ?_
  rintro e w3 ⟨rfl, hb3⟩
  rw [bytesOf_toList, HT.out]
  have hB3 := seqB hB2 hb3
  clear hB2 hb3
  go_wp2_with fail
  refine (fget_any _ _ yT).mono ?_
  rintro e w4 ⟨rfl, hb4⟩
  rw [bytesOf_toList, HTu.out, HU.out]
  unfold ansF
  have hB4 := seqB hB3 hb4
  clear hB3 hb4
  go_wp2_with fail
  refine (fput_any _ _ _ _ hzs).mono ?_
  rintro e w5 ⟨rfl, hb5⟩
  rw [bytesOf_toList, Hzp.out]
  generalize (frameT 33 (zeros (2047 + j)) 0).1 = Z
  have p0 := below_cell hb5 (a := ⟨w4.heap.size, 0, none⟩) (v := .int .i64 0) (by simp [go_sem])
  have p1 := below_cell hb5 (a := ⟨w4.heap.size, 1, none⟩) (v := .string (bytesOf [])) (by simp [go_sem])
  have hlt5 := block_lt_of_cell p0
  have hB5 := seqB (allocB (allocB hB4 _) _) hb5
  clear hB4 hb5
  go_wp2_with fail
  refine (fget_any _ _ (by decide)).mono ?_
  rintro e w6 ⟨rfl, hb6⟩
  have e6 : unframe (⟨#[97, 98, 99, 100, 101]⟩ : ByteArray).data.toList = (0, [], 300) := abcde_get
  rw [e6]
  clear e6
  unfold ansF
  replace p0 := below_cell hb6 p0
  replace p1 := below_cell hb6 p1
  have hlt6 := block_lt_of_cell p0
  have hB6 := seqB hB5 hb6
  clear hB5 hb6
  have hne : (bytesOf []).toList = [] := ba_toList _
  go_wp2_with (go_at_call 20; refine (num_any _ _).mono ?_; rintro e w' ⟨rfl, rfl⟩)
  go_ret
  exact ⟨rfl, allocB hB6 _⟩
set_option maxRecDepth 100000 in
set_option maxHeartbeats 2000000 in
theorem frameHeads_bad21 (a b many : Int) (w : World) (x y : UInt8) (hx : a % 256 = (x.toNat : Int)) (hy : b % 256 = (y.toNat : Int)) (j : Nat) (hj : many % 4 = (j : Int)) (hj4 : j < 4) (h1 : ¬ (x = 255 ∧ y = 3)) (h2 : x = 255 ∧ y ≠ 3) (h3 : ¬ j ≤ 1) :
    Calls Try.prog 12 #[.int .i64 a, .int .i64 b, .int .i64 many] w fun e w' => e = .returned (.bool true) ∧ Below w.heap.size w w' := by
  have hu : unhead [x, y, 0, 33, 100, 97, 116, 97] = (0, [], 302) := heads_unhead x y _ h1
  have e1 : ((x.toNat : Int) == 255) = true := by rw [h2.1]; rfl
  have e2 : ((y.toNat : Int) == 3) = false := u8_beq h2.2
  have HU := Lib.hid hu
  clear hu h1 h2
  have hm : bits BinOp.and IntKind.i64 many 3 = (j : Int) := (i64_low many 2 (by omega)).trans hj
  obtain ⟨T, hT, hTu, hTl⟩ := heads_text x y
  have HT := Lib.hid hT
  have HTu := Lib.hid hTu
  clear hT hTu hj
  have yT : (bytesOf T).size ≤ 140737488355328 := by rw [bytesOf_size]; omega
  have hmk := make_zeros j hj4
  have hcz := conv_zeros1 (2047 + j)
  have hcv := conv4
  have hs4 : ∀ a b c d : Int, (strOfNums [a, b, c, d]).size = 4 := fun a b c d => strOfNums_size _
  have hzs : (bytesOf (zeros (2047 + j))).size ≤ maxLen := by rw [bytesOf_size]; simp [zeros, maxLen]; omega
  have Hzp : Hid ((frameT 33 (zeros (2047 + j)) 0).2 = 304) := by rw [zeros_put, if_neg h3]; exact rfl
  have hL : (strOfNums [(x.toNat : Int), (y.toNat : Int), 0, 33] ++ ⟨#[100, 97, 116, 97]⟩).data.toList = [x, y, 0, 33, 100, 97, 116, 97] := by
    rw [ByteArray.data_append, Array.toList_append, strOfNums_data]; simp
  have HL := Lib.hid hL
  clear hL
  go_enter Try.func12, Try.ntmps12
  go_wp2_with fail
  refine (awake3_any _).mono ?_
  rintro e w1 ⟨rfl, hb1⟩
  go_wp2_with fail
  refine (sum_any _ _ (by rw [ByteArray.size_append, hs4]; decide)).mono ?_
  rintro e w2 ⟨rfl, hb2⟩
  rw [HL.out]
  have hB2 := seqB (allocB hb1 _) hb2
  clear hb1 hb2
  go_wp2_with fail
  refine (rstuff_any _ _ _ (by rw [bytesOf_size, put_length]; simp)).mono ?_
  rintro e w3 ⟨rfl, hb3⟩
  rw [bytesOf_toList, HT.out]
  have hB3 := seqB hB2 hb3
  clear hB2 hb3
  go_wp2_with fail
  refine (fget_any _ _ yT).mono ?_
  rintro e w4 ⟨rfl, hb4⟩
  rw [bytesOf_toList, HTu.out, HU.out]
  unfold ansF
  have hB4 := seqB hB3 hb4
  clear hB3 hb4
  go_wp2_with fail
  refine (fput_any _ _ _ _ hzs).mono ?_
  rintro e w5 ⟨rfl, hb5⟩
  rw [bytesOf_toList, Hzp.out]
  generalize (frameT 33 (zeros (2047 + j)) 0).1 = Z
  have p0 := below_cell hb5 (a := ⟨w4.heap.size, 0, none⟩) (v := .int .i64 0) (by simp [go_sem])
  have p1 := below_cell hb5 (a := ⟨w4.heap.size, 1, none⟩) (v := .string (bytesOf [])) (by simp [go_sem])
  have hlt5 := block_lt_of_cell p0
  have hB5 := seqB (allocB (allocB hB4 _) _) hb5
  clear hB4 hb5
  go_wp2_with fail
  refine (fget_any _ _ (by decide)).mono ?_
  rintro e w6 ⟨rfl, hb6⟩
  have e6 : unframe (⟨#[97, 98, 99, 100, 101]⟩ : ByteArray).data.toList = (0, [], 300) := abcde_get
  rw [e6]
  clear e6
  unfold ansF
  replace p0 := below_cell hb6 p0
  replace p1 := below_cell hb6 p1
  have hlt6 := block_lt_of_cell p0
  have hB6 := seqB hB5 hb6
  clear hB5 hb6
  have hdec : decide (2047 + (j : Int) ≤ 2048) = false := decide_eq_false (by omega)
  have hne : (bytesOf []).toList = [] := ba_toList _
  go_wp2_with (go_at_call 20; refine (num_any _ _).mono ?_; rintro e w' ⟨rfl, rfl⟩)
  go_ret
  exact ⟨rfl, allocB hB6 _⟩
theorem frameHeads_walk (a b many : Int) (w : World) :
    Calls Try.prog 12 #[.int .i64 a, .int .i64 b, .int .i64 many] w fun e w' => e = .returned (.bool true) ∧ Below w.heap.size w w' := by
  obtain ⟨x, hx⟩ := byte_of3 a
  obtain ⟨y, hy⟩ := byte_of3 b
  obtain ⟨j, hj, hj4⟩ : ∃ j : Nat, many % 4 = (j : Int) ∧ j < 4 := ⟨(many % 4).toNat, by omega, by omega⟩
  by_cases h1 : x = 255
  · by_cases h2 : y = 3
    · exact frameHeads_right a b many w x y hx hy j hj hj4 h1 h2
    · by_cases h3 : j ≤ 1
      · exact frameHeads_bad20 a b many w x y hx hy j hj hj4 (fun h => h2 h.2) ⟨h1, h2⟩ h3
      · exact frameHeads_bad21 a b many w x y hx hy j hj hj4 (fun h => h2 h.2) ⟨h1, h2⟩ h3
  · by_cases h3 : j ≤ 1
    · exact frameHeads_bad10 a b many w x y hx hy j hj hj4 (fun h => h1 h.1) h1 h3
    · exact frameHeads_bad11 a b many w x y hx hy j hj hj4 (fun h => h1 h.1) h1 h3
end Go.Proofs.Ythijchjdkicbdaa
