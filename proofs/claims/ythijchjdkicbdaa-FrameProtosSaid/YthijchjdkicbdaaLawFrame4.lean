/- The walk of FrameProtos. -/
import Derived.Test.YthijchjdkicbdaaLawFrame2
namespace Go.Proofs.Ythijchjdkicbdaa
open Go.RowKit Go.Crc
theorem protos_text (q : Int) (D : List UInt8) (hD : D.length ≤ 100) : ∃ T, stuff 0 (put (headB q ++ D)) = T ∧ unframe T = unhead (headB q ++ D) ∧ T.length ≤ 212 := by
  refine ⟨_, rfl, unframe_stuff _ _ (by simp [headB]), ?_⟩
  have := stuff_length 0 (put (headB q ++ D))
  rw [put_length] at this
  simp [headB] at this ⊢
  omega
theorem unhead_bad (q : Int) (D : List UInt8) (h0 : 0 ≤ q) (h1 : q < 65536) (h : protoOk q = false) : unhead (headB q ++ D) = (0, [], 303) := by
  have e : ((((headB q ++ D).getD 2 0).toNat * 256 + ((headB q ++ D).getD 3 0).toNat : Nat) : Int) = q := by
    show (((byteAt (q / 256)).toNat * 256 + (byteAt q).toNat : Nat) : Int) = q
    rw [Int.natCast_add, Int.natCast_mul, byteAt_nat, byteAt_nat]
    omega
  unfold unhead
  rw [if_neg (by simp [headB]), e, if_pos h]
theorem frameT_bad (p : Int) (D : List UInt8) (h : protoOk p = false) : frameT p D 0 = ([], 303) := by unfold frameT; rw [if_pos h]
set_option maxRecDepth 100000 in
set_option maxHeartbeats 4000000 in
theorem fp_sfok (p : Int) (s : ByteArray) (w : World) (hs : s.size ≤ maxLen) (hl : ¬ 100 < s.size) (hp : protoOk p = true) (q : Int) (hq : p % 65536 = q) (hok : protoOk q = true) :
    Calls Try.prog 11 #[.int .i64 p, .string s] w fun e w' => e = .returned (.bool true) ∧ Below w.heap.size w w' := by
  unfold maxLen at hs
  have hq0 : 0 ≤ q := by omega
  have hq1 : q < 65536 := by omega
  have hDl : s.data.toList.length ≤ 100 := by rw [len_toList]; omega
  have hDs : s.size ≤ 100 := by omega
  have hDb : ((bytesOf s.data.toList).toList == s.toList) = true := ba_beq_true rfl
  obtain ⟨T, hT, hTu, hTl⟩ := protos_text q s.data.toList hDl
  have hu : unhead (headB q ++ s.data.toList) = (q, s.data.toList, 0) := unhead_head q _ hok (by omega)
  have hqq : q % 2 = 1 ∧ (q / 256) % 2 = 0 := by simp [protoOk] at hok; omega
  have c1 : (q % 2 == 1) = true := beq_iff_eq.2 hqq.1
  have c2 : ((q / 256) % 2 == 0) = true := beq_iff_eq.2 hqq.2
  clear hok hqq
  obtain ⟨Z, hZ⟩ : ∃ Z, frameT p s.data.toList 0 = (Z, 0) := ⟨_, frameT_ok p _ 0 hp (by omega)⟩
  have b1 : bits BinOp.and IntKind.i64 p 1 = p % 2 := i64_low p 1 (by omega)
  have b2 : bits BinOp.and IntKind.i64 (p / 256) 1 = (p / 256) % 2 := i64_low _ 1 (by omega)
  have b3 : bits BinOp.and IntKind.i64 p 65535 = q := (i64_low p 16 (by omega)).trans hq
  have b4 : bits BinOp.and IntKind.i64 q 255 = q % 256 := i64_low q 8 (by omega)
  have b5 : bits BinOp.and IntKind.i64 q 1 = q % 2 := i64_low q 1 (by omega)
  have b6 : bits BinOp.and IntKind.i64 (q / 256) 1 = (q / 256) % 2 := i64_low _ 1 (by omega)
  have HT := Lib.hid hT
  have HTu := Lib.hid (hTu.trans hu)
  have HZ := Lib.hid hZ
  have hcv := conv2
  have hs2 : ∀ a b : Int, (strOfNums [a, b]).size = 2 := fun a b => strOfNums_size _
  have yT : (bytesOf T).size ≤ 140737488355328 := by rw [bytesOf_size]; omega
  have hDm : (s).size ≤ maxLen := by unfold maxLen; omega
  have n1 : ¬ 9223372036854775807 < 2 + 2 + (s).size := by omega
  have n2 : ¬ 9223372036854775807 < 4 + (s).size := by omega
  have HL : Hid ((⟨#[255, 3]⟩ ++ strOfNums [q / 256, q % 256] ++ s : ByteArray).data.toList = headB q ++ s.data.toList) := by
    rw [ByteArray.data_append, ByteArray.data_append, Array.toList_append, Array.toList_append, strOfNums_data]
    have e1 : UInt8.ofNat (q / 256).toNat = byteAt (q / 256) := by unfold byteAt; congr 2; omega
    simp only [List.map_cons, List.map_nil, e1]
    exact rfl
  have hpf : 1 ≤ p ∧ p ≤ 65535 ∧ p % 2 = 1 ∧ (p / 256) % 2 = 0 := by simp [protoOk] at hp; omega
  obtain ⟨f1, f2, f3', f4'⟩ := hpf
  have f3 : (p % 2 == 1) = true := beq_iff_eq.2 f3'
  have f4 : ((p / 256) % 2 == 0) = true := beq_iff_eq.2 f4'
  clear f3' f4'
  clear hT hTu hu hZ hq hp
  go_enter Try.func11, Try.ntmps11
  go_wp2_with fail
  refine (awake3_any _).mono ?_
  rintro e w1 ⟨rfl, hb1⟩
  go_wp2_with fail
  refine (fput_any _ _ _ _ hDm).mono ?_
  rintro e w2 ⟨rfl, hb2⟩
  rw [HZ.out]
  have hB2 := seqB hb1 hb2
  clear hb1 hb2
  go_wp2_with (go_at_call 20; refine (num_any _ _).mono ?_; rintro e w' ⟨rfl, rfl⟩)
  refine (sum_any _ _ (by rw [ByteArray.size_append, ByteArray.size_append, hs2]; unfold maxLen; show 2 + 2 + _ + 2 ≤ _; omega)).mono ?_
  rintro e w3 ⟨rfl, hb3⟩
  rw [HL.out]
  have hB3 := seqB (allocB hB2 _) hb3
  clear hB2 hb3
  go_wp2_with fail
  refine (rstuff_any _ _ _ (by rw [bytesOf_size, put_length]; simp [headB]; omega)).mono ?_
  rintro e w4 ⟨rfl, hb4⟩
  rw [bytesOf_toList, HT.out]
  have hB4 := seqB hB3 hb4
  clear hB3 hb4
  go_wp2_with fail
  refine (fget_any _ _ yT).mono ?_
  rintro e w5 ⟨rfl, hb5⟩
  rw [bytesOf_toList, HTu.out]
  unfold ansF
  have hB5 := seqB hB4 hb5
  clear hB4 hb5
  go_wp2_with (go_at_call 20; refine (num_any _ _).mono ?_; rintro e w' ⟨rfl, rfl⟩)
  go_ret
  exact ⟨rfl, allocB hB5 _⟩
set_option maxRecDepth 100000 in
set_option maxHeartbeats 4000000 in
theorem fp_snok (p : Int) (s : ByteArray) (w : World) (hs : s.size ≤ maxLen) (hl : ¬ 100 < s.size) (hp : protoOk p = false) (q : Int) (hq : p % 65536 = q) (hok : protoOk q = true) :
    Calls Try.prog 11 #[.int .i64 p, .string s] w fun e w' => e = .returned (.bool true) ∧ Below w.heap.size w w' := by
  unfold maxLen at hs
  have hq0 : 0 ≤ q := by omega
  have hq1 : q < 65536 := by omega
  have hDl : s.data.toList.length ≤ 100 := by rw [len_toList]; omega
  have hDs : s.size ≤ 100 := by omega
  have hDb : ((bytesOf s.data.toList).toList == s.toList) = true := ba_beq_true rfl
  obtain ⟨T, hT, hTu, hTl⟩ := protos_text q s.data.toList hDl
  have hu : unhead (headB q ++ s.data.toList) = (q, s.data.toList, 0) := unhead_head q _ hok (by omega)
  have hqq : q % 2 = 1 ∧ (q / 256) % 2 = 0 := by simp [protoOk] at hok; omega
  have c1 : (q % 2 == 1) = true := beq_iff_eq.2 hqq.1
  have c2 : ((q / 256) % 2 == 0) = true := beq_iff_eq.2 hqq.2
  clear hok hqq
  have hZ : frameT p s.data.toList 0 = ([], 303) := frameT_bad p _ hp
  have b1 : bits BinOp.and IntKind.i64 p 1 = p % 2 := i64_low p 1 (by omega)
  have b2 : bits BinOp.and IntKind.i64 (p / 256) 1 = (p / 256) % 2 := i64_low _ 1 (by omega)
  have b3 : bits BinOp.and IntKind.i64 p 65535 = q := (i64_low p 16 (by omega)).trans hq
  have b4 : bits BinOp.and IntKind.i64 q 255 = q % 256 := i64_low q 8 (by omega)
  have b5 : bits BinOp.and IntKind.i64 q 1 = q % 2 := i64_low q 1 (by omega)
  have b6 : bits BinOp.and IntKind.i64 (q / 256) 1 = (q / 256) % 2 := i64_low _ 1 (by omega)
  have HT := Lib.hid hT
  have HTu := Lib.hid (hTu.trans hu)
  have HZ := Lib.hid hZ
  have hcv := conv2
  have hs2 : ∀ a b : Int, (strOfNums [a, b]).size = 2 := fun a b => strOfNums_size _
  have yT : (bytesOf T).size ≤ 140737488355328 := by rw [bytesOf_size]; omega
  have hDm : (s).size ≤ maxLen := by unfold maxLen; omega
  have n1 : ¬ 9223372036854775807 < 2 + 2 + (s).size := by omega
  have n2 : ¬ 9223372036854775807 < 4 + (s).size := by omega
  have HL : Hid ((⟨#[255, 3]⟩ ++ strOfNums [q / 256, q % 256] ++ s : ByteArray).data.toList = headB q ++ s.data.toList) := by
    rw [ByteArray.data_append, ByteArray.data_append, Array.toList_append, Array.toList_append, strOfNums_data]
    have e1 : UInt8.ofNat (q / 256).toNat = byteAt (q / 256) := by unfold byteAt; congr 2; omega
    simp only [List.map_cons, List.map_nil, e1]
    exact rfl
  have Hpv := Lib.hid hp
  clear hT hTu hu hZ hq hp
  go_enter Try.func11, Try.ntmps11
  go_wp2_with fail
  refine (awake3_any _).mono ?_
  rintro e w1 ⟨rfl, hb1⟩
  go_upto_region 3 with fail
  go_cut [5] (fun v wx => v = .bool false ∧ wx = w1)
  case first =>
    go_wp2_with fail
    all_goals
      go_meet
      have hv := Hpv.out
      first
        | exact ⟨rfl, rfl⟩
        | (refine ⟨?_, rfl⟩; simp [protoOk, *] at hv ⊢; done)
        | (refine ⟨?_, rfl⟩; simp [protoOk, *] at hv ⊢; omega)
  case rest =>
  obtain ⟨rfl, rfl⟩ := hcut
  go_wp2_with fail
  refine (fput_any _ _ _ _ hDm).mono ?_
  rintro e w2 ⟨rfl, hb2⟩
  rw [HZ.out]
  have hB2 := seqB hb1 hb2
  clear hb1 hb2
  have hne : (bytesOf []).toList = [] := ba_toList _
  go_wp2_with (go_at_call 20; refine (num_any _ _).mono ?_; rintro e w' ⟨rfl, rfl⟩)
  refine (sum_any _ _ (by rw [ByteArray.size_append, ByteArray.size_append, hs2]; unfold maxLen; show 2 + 2 + _ + 2 ≤ _; omega)).mono ?_
  rintro e w3 ⟨rfl, hb3⟩
  rw [HL.out]
  have hB3 := seqB (allocB hB2 _) hb3
  clear hB2 hb3
  go_wp2_with fail
  refine (rstuff_any _ _ _ (by rw [bytesOf_size, put_length]; simp [headB]; omega)).mono ?_
  rintro e w4 ⟨rfl, hb4⟩
  rw [bytesOf_toList, HT.out]
  have hB4 := seqB hB3 hb4
  clear hB3 hb4
  go_wp2_with fail
  refine (fget_any _ _ yT).mono ?_
  rintro e w5 ⟨rfl, hb5⟩
  rw [bytesOf_toList, HTu.out]
  unfold ansF
  have hB5 := seqB hB4 hb5
  clear hB4 hb5
  go_wp2_with (go_at_call 20; refine (num_any _ _).mono ?_; rintro e w' ⟨rfl, rfl⟩)
  go_ret
  exact ⟨rfl, allocB hB5 _⟩
set_option maxRecDepth 100000 in
set_option maxHeartbeats 4000000 in
theorem fp_sneven (p : Int) (s : ByteArray) (w : World) (hs : s.size ≤ maxLen) (hl : ¬ 100 < s.size) (hp : protoOk p = false) (q : Int) (hq : p % 65536 = q) (hok : q % 2 = 0) :
    Calls Try.prog 11 #[.int .i64 p, .string s] w fun e w' => e = .returned (.bool true) ∧ Below w.heap.size w w' := by
  unfold maxLen at hs
  have hq0 : 0 ≤ q := by omega
  have hq1 : q < 65536 := by omega
  have hDl : s.data.toList.length ≤ 100 := by rw [len_toList]; omega
  have hDs : s.size ≤ 100 := by omega
  have hDb : ((bytesOf s.data.toList).toList == s.toList) = true := ba_beq_true rfl
  obtain ⟨T, hT, hTu, hTl⟩ := protos_text q s.data.toList hDl
  have hpq : protoOk q = false := by simp [protoOk]; omega
  have hu : unhead (headB q ++ s.data.toList) = (0, [], 303) := unhead_bad q _ hq0 hq1 hpq
  have c1 : (q % 2 == 1) = false := beq_eq_false_iff_ne.2 (by omega)
  clear hok hpq
  have hZ : frameT p s.data.toList 0 = ([], 303) := frameT_bad p _ hp
  have b1 : bits BinOp.and IntKind.i64 p 1 = p % 2 := i64_low p 1 (by omega)
  have b2 : bits BinOp.and IntKind.i64 (p / 256) 1 = (p / 256) % 2 := i64_low _ 1 (by omega)
  have b3 : bits BinOp.and IntKind.i64 p 65535 = q := (i64_low p 16 (by omega)).trans hq
  have b4 : bits BinOp.and IntKind.i64 q 255 = q % 256 := i64_low q 8 (by omega)
  have b5 : bits BinOp.and IntKind.i64 q 1 = q % 2 := i64_low q 1 (by omega)
  have b6 : bits BinOp.and IntKind.i64 (q / 256) 1 = (q / 256) % 2 := i64_low _ 1 (by omega)
  have HT := Lib.hid hT
  have HTu := Lib.hid (hTu.trans hu)
  have HZ := Lib.hid hZ
  have hcv := conv2
  have hs2 : ∀ a b : Int, (strOfNums [a, b]).size = 2 := fun a b => strOfNums_size _
  have yT : (bytesOf T).size ≤ 140737488355328 := by rw [bytesOf_size]; omega
  have hDm : (s).size ≤ maxLen := by unfold maxLen; omega
  have n1 : ¬ 9223372036854775807 < 2 + 2 + (s).size := by omega
  have n2 : ¬ 9223372036854775807 < 4 + (s).size := by omega
  have HL : Hid ((⟨#[255, 3]⟩ ++ strOfNums [q / 256, q % 256] ++ s : ByteArray).data.toList = headB q ++ s.data.toList) := by
    rw [ByteArray.data_append, ByteArray.data_append, Array.toList_append, Array.toList_append, strOfNums_data]
    have e1 : UInt8.ofNat (q / 256).toNat = byteAt (q / 256) := by unfold byteAt; congr 2; omega
    simp only [List.map_cons, List.map_nil, e1]
    exact rfl
  have Hpv := Lib.hid hp
  clear hT hTu hu hZ hq hp
  go_enter Try.func11, Try.ntmps11
  go_wp2_with fail
  refine (awake3_any _).mono ?_
  rintro e w1 ⟨rfl, hb1⟩
  go_upto_region 3 with fail
  go_cut [5] (fun v wx => v = .bool false ∧ wx = w1)
  case first =>
    go_wp2_with fail
    all_goals
      go_meet
      have hv := Hpv.out
      first
        | exact ⟨rfl, rfl⟩
        | (refine ⟨?_, rfl⟩; simp [protoOk, *] at hv ⊢; done)
        | (refine ⟨?_, rfl⟩; simp [protoOk, *] at hv ⊢; omega)
  case rest =>
  obtain ⟨rfl, rfl⟩ := hcut
  go_wp2_with fail
  refine (fput_any _ _ _ _ hDm).mono ?_
  rintro e w2 ⟨rfl, hb2⟩
  rw [HZ.out]
  have hB2 := seqB hb1 hb2
  clear hb1 hb2
  have hne : (bytesOf []).toList = [] := ba_toList _
  go_wp2_with (go_at_call 20; refine (num_any _ _).mono ?_; rintro e w' ⟨rfl, rfl⟩)
  refine (sum_any _ _ (by rw [ByteArray.size_append, ByteArray.size_append, hs2]; unfold maxLen; show 2 + 2 + _ + 2 ≤ _; omega)).mono ?_
  rintro e w3 ⟨rfl, hb3⟩
  rw [HL.out]
  have hB3 := seqB (allocB hB2 _) hb3
  clear hB2 hb3
  go_wp2_with fail
  refine (rstuff_any _ _ _ (by rw [bytesOf_size, put_length]; simp [headB]; omega)).mono ?_
  rintro e w4 ⟨rfl, hb4⟩
  rw [bytesOf_toList, HT.out]
  have hB4 := seqB hB3 hb4
  clear hB3 hb4
  go_wp2_with fail
  refine (fget_any _ _ yT).mono ?_
  rintro e w5 ⟨rfl, hb5⟩
  rw [bytesOf_toList, HTu.out]
  unfold ansF
  have hB5 := seqB hB4 hb5
  clear hB4 hb5
  go_wp2_with (go_at_call 20; refine (num_any _ _).mono ?_; rintro e w' ⟨rfl, rfl⟩)
  go_ret
  exact ⟨rfl, allocB hB5 _⟩
set_option maxRecDepth 100000 in
set_option maxHeartbeats 4000000 in
theorem fp_snbit (p : Int) (s : ByteArray) (w : World) (hs : s.size ≤ maxLen) (hl : ¬ 100 < s.size) (hp : protoOk p = false) (q : Int) (hq : p % 65536 = q) (hok : q % 2 = 1 ∧ (q / 256) % 2 = 1) :
    Calls Try.prog 11 #[.int .i64 p, .string s] w fun e w' => e = .returned (.bool true) ∧ Below w.heap.size w w' := by
  unfold maxLen at hs
  have hq0 : 0 ≤ q := by omega
  have hq1 : q < 65536 := by omega
  have hDl : s.data.toList.length ≤ 100 := by rw [len_toList]; omega
  have hDs : s.size ≤ 100 := by omega
  have hDb : ((bytesOf s.data.toList).toList == s.toList) = true := ba_beq_true rfl
  obtain ⟨T, hT, hTu, hTl⟩ := protos_text q s.data.toList hDl
  have hpq : protoOk q = false := by simp [protoOk]; omega
  have hu : unhead (headB q ++ s.data.toList) = (0, [], 303) := unhead_bad q _ hq0 hq1 hpq
  have c1 : (q % 2 == 1) = true := beq_iff_eq.2 hok.1
  have c2 : ((q / 256) % 2 == 0) = false := beq_eq_false_iff_ne.2 (by omega)
  clear hok hpq
  have hZ : frameT p s.data.toList 0 = ([], 303) := frameT_bad p _ hp
  have b1 : bits BinOp.and IntKind.i64 p 1 = p % 2 := i64_low p 1 (by omega)
  have b2 : bits BinOp.and IntKind.i64 (p / 256) 1 = (p / 256) % 2 := i64_low _ 1 (by omega)
  have b3 : bits BinOp.and IntKind.i64 p 65535 = q := (i64_low p 16 (by omega)).trans hq
  have b4 : bits BinOp.and IntKind.i64 q 255 = q % 256 := i64_low q 8 (by omega)
  have b5 : bits BinOp.and IntKind.i64 q 1 = q % 2 := i64_low q 1 (by omega)
  have b6 : bits BinOp.and IntKind.i64 (q / 256) 1 = (q / 256) % 2 := i64_low _ 1 (by omega)
  have HT := Lib.hid hT
  have HTu := Lib.hid (hTu.trans hu)
  have HZ := Lib.hid hZ
  have hcv := conv2
  have hs2 : ∀ a b : Int, (strOfNums [a, b]).size = 2 := fun a b => strOfNums_size _
  have yT : (bytesOf T).size ≤ 140737488355328 := by rw [bytesOf_size]; omega
  have hDm : (s).size ≤ maxLen := by unfold maxLen; omega
  have n1 : ¬ 9223372036854775807 < 2 + 2 + (s).size := by omega
  have n2 : ¬ 9223372036854775807 < 4 + (s).size := by omega
  have HL : Hid ((⟨#[255, 3]⟩ ++ strOfNums [q / 256, q % 256] ++ s : ByteArray).data.toList = headB q ++ s.data.toList) := by
    rw [ByteArray.data_append, ByteArray.data_append, Array.toList_append, Array.toList_append, strOfNums_data]
    have e1 : UInt8.ofNat (q / 256).toNat = byteAt (q / 256) := by unfold byteAt; congr 2; omega
    simp only [List.map_cons, List.map_nil, e1]
    exact rfl
  have Hpv := Lib.hid hp
  clear hT hTu hu hZ hq hp
  go_enter Try.func11, Try.ntmps11
  go_wp2_with fail
  refine (awake3_any _).mono ?_
  rintro e w1 ⟨rfl, hb1⟩
  go_upto_region 3 with fail
  go_cut [5] (fun v wx => v = .bool false ∧ wx = w1)
  case first =>
    go_wp2_with fail
    all_goals
      go_meet
      have hv := Hpv.out
      first
        | exact ⟨rfl, rfl⟩
        | (refine ⟨?_, rfl⟩; simp [protoOk, *] at hv ⊢; done)
        | (refine ⟨?_, rfl⟩; simp [protoOk, *] at hv ⊢; omega)
  case rest =>
  obtain ⟨rfl, rfl⟩ := hcut
  go_wp2_with fail
  refine (fput_any _ _ _ _ hDm).mono ?_
  rintro e w2 ⟨rfl, hb2⟩
  rw [HZ.out]
  have hB2 := seqB hb1 hb2
  clear hb1 hb2
  have hne : (bytesOf []).toList = [] := ba_toList _
  go_wp2_with (go_at_call 20; refine (num_any _ _).mono ?_; rintro e w' ⟨rfl, rfl⟩)
  refine (sum_any _ _ (by rw [ByteArray.size_append, ByteArray.size_append, hs2]; unfold maxLen; show 2 + 2 + _ + 2 ≤ _; omega)).mono ?_
  rintro e w3 ⟨rfl, hb3⟩
  rw [HL.out]
  have hB3 := seqB (allocB hB2 _) hb3
  clear hB2 hb3
  go_wp2_with fail
  refine (rstuff_any _ _ _ (by rw [bytesOf_size, put_length]; simp [headB]; omega)).mono ?_
  rintro e w4 ⟨rfl, hb4⟩
  rw [bytesOf_toList, HT.out]
  have hB4 := seqB hB3 hb4
  clear hB3 hb4
  go_wp2_with fail
  refine (fget_any _ _ yT).mono ?_
  rintro e w5 ⟨rfl, hb5⟩
  rw [bytesOf_toList, HTu.out]
  unfold ansF
  have hB5 := seqB hB4 hb5
  clear hB4 hb5
  go_wp2_with (go_at_call 20; refine (num_any _ _).mono ?_; rintro e w' ⟨rfl, rfl⟩)
  go_ret
  exact ⟨rfl, allocB hB5 _⟩
set_option maxRecDepth 100000 in
set_option maxHeartbeats 4000000 in
theorem fp_lfok (p : Int) (s : ByteArray) (w : World) (hs : s.size ≤ maxLen) (hl : 100 < s.size) (hp : protoOk p = true) (q : Int) (hq : p % 65536 = q) (hok : protoOk q = true) :
    Calls Try.prog 11 #[.int .i64 p, .string s] w fun e w' => e = .returned (.bool true) ∧ Below w.heap.size w w' := by
  unfold maxLen at hs
  have hq0 : 0 ≤ q := by omega
  have hq1 : q < 65536 := by omega
  have hex : s.extract 0 100 = bytesOf (s.data.toList.take 100) := prefix_bytes s 100
  have hDl : (s.data.toList.take 100).length ≤ 100 := by simp; omega
  have hDs : (bytesOf (s.data.toList.take 100)).size ≤ 100 := by rw [bytesOf_size]; exact hDl
  obtain ⟨D, hD⟩ : ∃ D, D = s.data.toList.take 100 := ⟨_, rfl⟩
  rw [← hD] at hex hDl hDs
  clear hD
  obtain ⟨T, hT, hTu, hTl⟩ := protos_text q D hDl
  have hu : unhead (headB q ++ D) = (q, D, 0) := unhead_head q _ hok (by omega)
  have hqq : q % 2 = 1 ∧ (q / 256) % 2 = 0 := by simp [protoOk] at hok; omega
  have c1 : (q % 2 == 1) = true := beq_iff_eq.2 hqq.1
  have c2 : ((q / 256) % 2 == 0) = true := beq_iff_eq.2 hqq.2
  clear hok hqq
  obtain ⟨Z, hZ⟩ : ∃ Z, frameT p D 0 = (Z, 0) := ⟨_, frameT_ok p _ 0 hp (by omega)⟩
  have b1 : bits BinOp.and IntKind.i64 p 1 = p % 2 := i64_low p 1 (by omega)
  have b2 : bits BinOp.and IntKind.i64 (p / 256) 1 = (p / 256) % 2 := i64_low _ 1 (by omega)
  have b3 : bits BinOp.and IntKind.i64 p 65535 = q := (i64_low p 16 (by omega)).trans hq
  have b4 : bits BinOp.and IntKind.i64 q 255 = q % 256 := i64_low q 8 (by omega)
  have b5 : bits BinOp.and IntKind.i64 q 1 = q % 2 := i64_low q 1 (by omega)
  have b6 : bits BinOp.and IntKind.i64 (q / 256) 1 = (q / 256) % 2 := i64_low _ 1 (by omega)
  have HT := Lib.hid hT
  have HTu := Lib.hid (hTu.trans hu)
  have HZ := Lib.hid hZ
  have hcv := conv2
  have hs2 : ∀ a b : Int, (strOfNums [a, b]).size = 2 := fun a b => strOfNums_size _
  have yT : (bytesOf T).size ≤ 140737488355328 := by rw [bytesOf_size]; omega
  have hDm : (bytesOf D).size ≤ maxLen := by unfold maxLen; omega
  have n1 : ¬ 9223372036854775807 < 2 + 2 + (bytesOf D).size := by omega
  have n2 : ¬ 9223372036854775807 < 4 + (bytesOf D).size := by omega
  have HL : Hid ((⟨#[255, 3]⟩ ++ strOfNums [q / 256, q % 256] ++ bytesOf D : ByteArray).data.toList = headB q ++ D) := by
    rw [ByteArray.data_append, ByteArray.data_append, Array.toList_append, Array.toList_append, strOfNums_data]
    have e1 : UInt8.ofNat (q / 256).toNat = byteAt (q / 256) := by unfold byteAt; congr 2; omega
    simp only [List.map_cons, List.map_nil, e1]
    exact rfl
  have hpf : 1 ≤ p ∧ p ≤ 65535 ∧ p % 2 = 1 ∧ (p / 256) % 2 = 0 := by simp [protoOk] at hp; omega
  obtain ⟨f1, f2, f3', f4'⟩ := hpf
  have f3 : (p % 2 == 1) = true := beq_iff_eq.2 f3'
  have f4 : ((p / 256) % 2 == 0) = true := beq_iff_eq.2 f4'
  clear f3' f4'
  clear hT hTu hu hZ hq hp
  go_enter Try.func11, Try.ntmps11
  go_wp2_with fail
  refine (awake3_any _).mono ?_
  rintro e w1 ⟨rfl, hb1⟩
  go_wp2_with fail
  refine (fput_any _ _ _ _ hDm).mono ?_
  rintro e w2 ⟨rfl, hb2⟩
  rw [bytesOf_toList, HZ.out]
  have hB2 := seqB hb1 hb2
  clear hb1 hb2
  go_wp2_with (go_at_call 20; refine (num_any _ _).mono ?_; rintro e w' ⟨rfl, rfl⟩)
  refine (sum_any _ _ (by rw [ByteArray.size_append, ByteArray.size_append, hs2]; unfold maxLen; show 2 + 2 + _ + 2 ≤ _; omega)).mono ?_
  rintro e w3 ⟨rfl, hb3⟩
  rw [HL.out]
  have hB3 := seqB (allocB hB2 _) hb3
  clear hB2 hb3
  go_wp2_with fail
  refine (rstuff_any _ _ _ (by rw [bytesOf_size, put_length]; simp [headB]; omega)).mono ?_
  rintro e w4 ⟨rfl, hb4⟩
  rw [bytesOf_toList, HT.out]
  have hB4 := seqB hB3 hb4
  clear hB3 hb4
  go_wp2_with fail
  refine (fget_any _ _ yT).mono ?_
  rintro e w5 ⟨rfl, hb5⟩
  rw [bytesOf_toList, HTu.out]
  unfold ansF
  have hB5 := seqB hB4 hb5
  clear hB4 hb5
  go_wp2_with (go_at_call 20; refine (num_any _ _).mono ?_; rintro e w' ⟨rfl, rfl⟩)
  go_ret
  exact ⟨rfl, allocB hB5 _⟩
set_option maxRecDepth 100000 in
set_option maxHeartbeats 4000000 in
theorem fp_lnok (p : Int) (s : ByteArray) (w : World) (hs : s.size ≤ maxLen) (hl : 100 < s.size) (hp : protoOk p = false) (q : Int) (hq : p % 65536 = q) (hok : protoOk q = true) :
    Calls Try.prog 11 #[.int .i64 p, .string s] w fun e w' => e = .returned (.bool true) ∧ Below w.heap.size w w' := by
  unfold maxLen at hs
  have hq0 : 0 ≤ q := by omega
  have hq1 : q < 65536 := by omega
  have hex : s.extract 0 100 = bytesOf (s.data.toList.take 100) := prefix_bytes s 100
  have hDl : (s.data.toList.take 100).length ≤ 100 := by simp; omega
  have hDs : (bytesOf (s.data.toList.take 100)).size ≤ 100 := by rw [bytesOf_size]; exact hDl
  obtain ⟨D, hD⟩ : ∃ D, D = s.data.toList.take 100 := ⟨_, rfl⟩
  rw [← hD] at hex hDl hDs
  clear hD
  obtain ⟨T, hT, hTu, hTl⟩ := protos_text q D hDl
  have hu : unhead (headB q ++ D) = (q, D, 0) := unhead_head q _ hok (by omega)
  have hqq : q % 2 = 1 ∧ (q / 256) % 2 = 0 := by simp [protoOk] at hok; omega
  have c1 : (q % 2 == 1) = true := beq_iff_eq.2 hqq.1
  have c2 : ((q / 256) % 2 == 0) = true := beq_iff_eq.2 hqq.2
  clear hok hqq
  have hZ : frameT p D 0 = ([], 303) := frameT_bad p _ hp
  have b1 : bits BinOp.and IntKind.i64 p 1 = p % 2 := i64_low p 1 (by omega)
  have b2 : bits BinOp.and IntKind.i64 (p / 256) 1 = (p / 256) % 2 := i64_low _ 1 (by omega)
  have b3 : bits BinOp.and IntKind.i64 p 65535 = q := (i64_low p 16 (by omega)).trans hq
  have b4 : bits BinOp.and IntKind.i64 q 255 = q % 256 := i64_low q 8 (by omega)
  have b5 : bits BinOp.and IntKind.i64 q 1 = q % 2 := i64_low q 1 (by omega)
  have b6 : bits BinOp.and IntKind.i64 (q / 256) 1 = (q / 256) % 2 := i64_low _ 1 (by omega)
  have HT := Lib.hid hT
  have HTu := Lib.hid (hTu.trans hu)
  have HZ := Lib.hid hZ
  have hcv := conv2
  have hs2 : ∀ a b : Int, (strOfNums [a, b]).size = 2 := fun a b => strOfNums_size _
  have yT : (bytesOf T).size ≤ 140737488355328 := by rw [bytesOf_size]; omega
  have hDm : (bytesOf D).size ≤ maxLen := by unfold maxLen; omega
  have n1 : ¬ 9223372036854775807 < 2 + 2 + (bytesOf D).size := by omega
  have n2 : ¬ 9223372036854775807 < 4 + (bytesOf D).size := by omega
  have HL : Hid ((⟨#[255, 3]⟩ ++ strOfNums [q / 256, q % 256] ++ bytesOf D : ByteArray).data.toList = headB q ++ D) := by
    rw [ByteArray.data_append, ByteArray.data_append, Array.toList_append, Array.toList_append, strOfNums_data]
    have e1 : UInt8.ofNat (q / 256).toNat = byteAt (q / 256) := by unfold byteAt; congr 2; omega
    simp only [List.map_cons, List.map_nil, e1]
    exact rfl
  have Hpv := Lib.hid hp
  clear hT hTu hu hZ hq hp
  go_enter Try.func11, Try.ntmps11
  go_wp2_with fail
  refine (awake3_any _).mono ?_
  rintro e w1 ⟨rfl, hb1⟩
  go_upto_region 3 with fail
  go_cut [5] (fun v wx => v = .bool false ∧ wx = w1)
  case first =>
    go_wp2_with fail
    all_goals
      go_meet
      have hv := Hpv.out
      first
        | exact ⟨rfl, rfl⟩
        | (refine ⟨?_, rfl⟩; simp [protoOk, *] at hv ⊢; done)
        | (refine ⟨?_, rfl⟩; simp [protoOk, *] at hv ⊢; omega)
  case rest =>
  obtain ⟨rfl, rfl⟩ := hcut
  go_wp2_with fail
  refine (fput_any _ _ _ _ hDm).mono ?_
  rintro e w2 ⟨rfl, hb2⟩
  rw [bytesOf_toList, HZ.out]
  have hB2 := seqB hb1 hb2
  clear hb1 hb2
  have hne : (bytesOf []).toList = [] := ba_toList _
  go_wp2_with (go_at_call 20; refine (num_any _ _).mono ?_; rintro e w' ⟨rfl, rfl⟩)
  refine (sum_any _ _ (by rw [ByteArray.size_append, ByteArray.size_append, hs2]; unfold maxLen; show 2 + 2 + _ + 2 ≤ _; omega)).mono ?_
  rintro e w3 ⟨rfl, hb3⟩
  rw [HL.out]
  have hB3 := seqB (allocB hB2 _) hb3
  clear hB2 hb3
  go_wp2_with fail
  refine (rstuff_any _ _ _ (by rw [bytesOf_size, put_length]; simp [headB]; omega)).mono ?_
  rintro e w4 ⟨rfl, hb4⟩
  rw [bytesOf_toList, HT.out]
  have hB4 := seqB hB3 hb4
  clear hB3 hb4
  go_wp2_with fail
  refine (fget_any _ _ yT).mono ?_
  rintro e w5 ⟨rfl, hb5⟩
  rw [bytesOf_toList, HTu.out]
  unfold ansF
  have hB5 := seqB hB4 hb5
  clear hB4 hb5
  go_wp2_with (go_at_call 20; refine (num_any _ _).mono ?_; rintro e w' ⟨rfl, rfl⟩)
  go_ret
  exact ⟨rfl, allocB hB5 _⟩
set_option maxRecDepth 100000 in
set_option maxHeartbeats 4000000 in
theorem fp_lneven (p : Int) (s : ByteArray) (w : World) (hs : s.size ≤ maxLen) (hl : 100 < s.size) (hp : protoOk p = false) (q : Int) (hq : p % 65536 = q) (hok : q % 2 = 0) :
    Calls Try.prog 11 #[.int .i64 p, .string s] w fun e w' => e = .returned (.bool true) ∧ Below w.heap.size w w' := by
  unfold maxLen at hs
  have hq0 : 0 ≤ q := by omega
  have hq1 : q < 65536 := by omega
  have hex : s.extract 0 100 = bytesOf (s.data.toList.take 100) := prefix_bytes s 100
  have hDl : (s.data.toList.take 100).length ≤ 100 := by simp; omega
  have hDs : (bytesOf (s.data.toList.take 100)).size ≤ 100 := by rw [bytesOf_size]; exact hDl
  obtain ⟨D, hD⟩ : ∃ D, D = s.data.toList.take 100 := ⟨_, rfl⟩
  rw [← hD] at hex hDl hDs
  clear hD
  obtain ⟨T, hT, hTu, hTl⟩ := protos_text q D hDl
  have hpq : protoOk q = false := by simp [protoOk]; omega
  have hu : unhead (headB q ++ D) = (0, [], 303) := unhead_bad q _ hq0 hq1 hpq
  have c1 : (q % 2 == 1) = false := beq_eq_false_iff_ne.2 (by omega)
  clear hok hpq
  have hZ : frameT p D 0 = ([], 303) := frameT_bad p _ hp
  have b1 : bits BinOp.and IntKind.i64 p 1 = p % 2 := i64_low p 1 (by omega)
  have b2 : bits BinOp.and IntKind.i64 (p / 256) 1 = (p / 256) % 2 := i64_low _ 1 (by omega)
  have b3 : bits BinOp.and IntKind.i64 p 65535 = q := (i64_low p 16 (by omega)).trans hq
  have b4 : bits BinOp.and IntKind.i64 q 255 = q % 256 := i64_low q 8 (by omega)
  have b5 : bits BinOp.and IntKind.i64 q 1 = q % 2 := i64_low q 1 (by omega)
  have b6 : bits BinOp.and IntKind.i64 (q / 256) 1 = (q / 256) % 2 := i64_low _ 1 (by omega)
  have HT := Lib.hid hT
  have HTu := Lib.hid (hTu.trans hu)
  have HZ := Lib.hid hZ
  have hcv := conv2
  have hs2 : ∀ a b : Int, (strOfNums [a, b]).size = 2 := fun a b => strOfNums_size _
  have yT : (bytesOf T).size ≤ 140737488355328 := by rw [bytesOf_size]; omega
  have hDm : (bytesOf D).size ≤ maxLen := by unfold maxLen; omega
  have n1 : ¬ 9223372036854775807 < 2 + 2 + (bytesOf D).size := by omega
  have n2 : ¬ 9223372036854775807 < 4 + (bytesOf D).size := by omega
  have HL : Hid ((⟨#[255, 3]⟩ ++ strOfNums [q / 256, q % 256] ++ bytesOf D : ByteArray).data.toList = headB q ++ D) := by
    rw [ByteArray.data_append, ByteArray.data_append, Array.toList_append, Array.toList_append, strOfNums_data]
    have e1 : UInt8.ofNat (q / 256).toNat = byteAt (q / 256) := by unfold byteAt; congr 2; omega
    simp only [List.map_cons, List.map_nil, e1]
    exact rfl
  have Hpv := Lib.hid hp
  clear hT hTu hu hZ hq hp
  go_enter Try.func11, Try.ntmps11
  go_wp2_with fail
  refine (awake3_any _).mono ?_
  rintro e w1 ⟨rfl, hb1⟩
  go_upto_region 3 with fail
  go_cut [5] (fun v wx => v = .bool false ∧ wx = w1)
  case first =>
    go_wp2_with fail
    all_goals
      go_meet
      have hv := Hpv.out
      first
        | exact ⟨rfl, rfl⟩
        | (refine ⟨?_, rfl⟩; simp [protoOk, *] at hv ⊢; done)
        | (refine ⟨?_, rfl⟩; simp [protoOk, *] at hv ⊢; omega)
  case rest =>
  obtain ⟨rfl, rfl⟩ := hcut
  go_wp2_with fail
  refine (fput_any _ _ _ _ hDm).mono ?_
  rintro e w2 ⟨rfl, hb2⟩
  rw [bytesOf_toList, HZ.out]
  have hB2 := seqB hb1 hb2
  clear hb1 hb2
  have hne : (bytesOf []).toList = [] := ba_toList _
  go_wp2_with (go_at_call 20; refine (num_any _ _).mono ?_; rintro e w' ⟨rfl, rfl⟩)
  refine (sum_any _ _ (by rw [ByteArray.size_append, ByteArray.size_append, hs2]; unfold maxLen; show 2 + 2 + _ + 2 ≤ _; omega)).mono ?_
  rintro e w3 ⟨rfl, hb3⟩
  rw [HL.out]
  have hB3 := seqB (allocB hB2 _) hb3
  clear hB2 hb3
  go_wp2_with fail
  refine (rstuff_any _ _ _ (by rw [bytesOf_size, put_length]; simp [headB]; omega)).mono ?_
  rintro e w4 ⟨rfl, hb4⟩
  rw [bytesOf_toList, HT.out]
  have hB4 := seqB hB3 hb4
  clear hB3 hb4
  go_wp2_with fail
  refine (fget_any _ _ yT).mono ?_
  rintro e w5 ⟨rfl, hb5⟩
  rw [bytesOf_toList, HTu.out]
  unfold ansF
  have hB5 := seqB hB4 hb5
  clear hB4 hb5
  go_wp2_with (go_at_call 20; refine (num_any _ _).mono ?_; rintro e w' ⟨rfl, rfl⟩)
  go_ret
  exact ⟨rfl, allocB hB5 _⟩
set_option maxRecDepth 100000 in
set_option maxHeartbeats 4000000 in
theorem fp_lnbit (p : Int) (s : ByteArray) (w : World) (hs : s.size ≤ maxLen) (hl : 100 < s.size) (hp : protoOk p = false) (q : Int) (hq : p % 65536 = q) (hok : q % 2 = 1 ∧ (q / 256) % 2 = 1) :
    Calls Try.prog 11 #[.int .i64 p, .string s] w fun e w' => e = .returned (.bool true) ∧ Below w.heap.size w w' := by
  unfold maxLen at hs
  have hq0 : 0 ≤ q := by omega
  have hq1 : q < 65536 := by omega
  have hex : s.extract 0 100 = bytesOf (s.data.toList.take 100) := prefix_bytes s 100
  have hDl : (s.data.toList.take 100).length ≤ 100 := by simp; omega
  have hDs : (bytesOf (s.data.toList.take 100)).size ≤ 100 := by rw [bytesOf_size]; exact hDl
  obtain ⟨D, hD⟩ : ∃ D, D = s.data.toList.take 100 := ⟨_, rfl⟩
  rw [← hD] at hex hDl hDs
  clear hD
  obtain ⟨T, hT, hTu, hTl⟩ := protos_text q D hDl
  have hpq : protoOk q = false := by simp [protoOk]; omega
  have hu : unhead (headB q ++ D) = (0, [], 303) := unhead_bad q _ hq0 hq1 hpq
  have c1 : (q % 2 == 1) = true := beq_iff_eq.2 hok.1
  have c2 : ((q / 256) % 2 == 0) = false := beq_eq_false_iff_ne.2 (by omega)
  clear hok hpq
  have hZ : frameT p D 0 = ([], 303) := frameT_bad p _ hp
  have b1 : bits BinOp.and IntKind.i64 p 1 = p % 2 := i64_low p 1 (by omega)
  have b2 : bits BinOp.and IntKind.i64 (p / 256) 1 = (p / 256) % 2 := i64_low _ 1 (by omega)
  have b3 : bits BinOp.and IntKind.i64 p 65535 = q := (i64_low p 16 (by omega)).trans hq
  have b4 : bits BinOp.and IntKind.i64 q 255 = q % 256 := i64_low q 8 (by omega)
  have b5 : bits BinOp.and IntKind.i64 q 1 = q % 2 := i64_low q 1 (by omega)
  have b6 : bits BinOp.and IntKind.i64 (q / 256) 1 = (q / 256) % 2 := i64_low _ 1 (by omega)
  have HT := Lib.hid hT
  have HTu := Lib.hid (hTu.trans hu)
  have HZ := Lib.hid hZ
  have hcv := conv2
  have hs2 : ∀ a b : Int, (strOfNums [a, b]).size = 2 := fun a b => strOfNums_size _
  have yT : (bytesOf T).size ≤ 140737488355328 := by rw [bytesOf_size]; omega
  have hDm : (bytesOf D).size ≤ maxLen := by unfold maxLen; omega
  have n1 : ¬ 9223372036854775807 < 2 + 2 + (bytesOf D).size := by omega
  have n2 : ¬ 9223372036854775807 < 4 + (bytesOf D).size := by omega
  have HL : Hid ((⟨#[255, 3]⟩ ++ strOfNums [q / 256, q % 256] ++ bytesOf D : ByteArray).data.toList = headB q ++ D) := by
    rw [ByteArray.data_append, ByteArray.data_append, Array.toList_append, Array.toList_append, strOfNums_data]
    have e1 : UInt8.ofNat (q / 256).toNat = byteAt (q / 256) := by unfold byteAt; congr 2; omega
    simp only [List.map_cons, List.map_nil, e1]
    exact rfl
  have Hpv := Lib.hid hp
  clear hT hTu hu hZ hq hp
  go_enter Try.func11, Try.ntmps11
  go_wp2_with fail
  refine (awake3_any _).mono ?_
  rintro e w1 ⟨rfl, hb1⟩
  go_upto_region 3 with fail
  go_cut [5] (fun v wx => v = .bool false ∧ wx = w1)
  case first =>
    go_wp2_with fail
    all_goals
      go_meet
      have hv := Hpv.out
      first
        | exact ⟨rfl, rfl⟩
        | (refine ⟨?_, rfl⟩; simp [protoOk, *] at hv ⊢; done)
        | (refine ⟨?_, rfl⟩; simp [protoOk, *] at hv ⊢; omega)
  case rest =>
  obtain ⟨rfl, rfl⟩ := hcut
  go_wp2_with fail
  refine (fput_any _ _ _ _ hDm).mono ?_
  rintro e w2 ⟨rfl, hb2⟩
  rw [bytesOf_toList, HZ.out]
  have hB2 := seqB hb1 hb2
  clear hb1 hb2
  have hne : (bytesOf []).toList = [] := ba_toList _
  go_wp2_with (go_at_call 20; refine (num_any _ _).mono ?_; rintro e w' ⟨rfl, rfl⟩)
  refine (sum_any _ _ (by rw [ByteArray.size_append, ByteArray.size_append, hs2]; unfold maxLen; show 2 + 2 + _ + 2 ≤ _; omega)).mono ?_
  rintro e w3 ⟨rfl, hb3⟩
  rw [HL.out]
  have hB3 := seqB (allocB hB2 _) hb3
  clear hB2 hb3
  go_wp2_with fail
  refine (rstuff_any _ _ _ (by rw [bytesOf_size, put_length]; simp [headB]; omega)).mono ?_
  rintro e w4 ⟨rfl, hb4⟩
  rw [bytesOf_toList, HT.out]
  have hB4 := seqB hB3 hb4
  clear hB3 hb4
  go_wp2_with fail
  refine (fget_any _ _ yT).mono ?_
  rintro e w5 ⟨rfl, hb5⟩
  rw [bytesOf_toList, HTu.out]
  unfold ansF
  have hB5 := seqB hB4 hb5
  clear hB4 hb5
  go_wp2_with (go_at_call 20; refine (num_any _ _).mono ?_; rintro e w' ⟨rfl, rfl⟩)
  go_ret
  exact ⟨rfl, allocB hB5 _⟩
theorem frameProtos_walk (p : Int) (s : ByteArray) (w : World) (hs : s.size ≤ maxLen) :
    Calls Try.prog 11 #[.int .i64 p, .string s] w fun e w' => e = .returned (.bool true) ∧ Below w.heap.size w w' := by
  by_cases hl : 100 < s.size
  · cases hp : protoOk p with
    | true => exact fp_lfok p s w hs hl hp _ rfl (by simp [protoOk] at hp ⊢; omega)
    | false =>
      by_cases h1 : (p % 65536) % 2 = 1
      · by_cases h2 : (p % 65536 / 256) % 2 = 0
        · exact fp_lnok p s w hs hl hp _ rfl (by simp [protoOk]; omega)
        · exact fp_lnbit p s w hs hl hp _ rfl (by omega)
      · exact fp_lneven p s w hs hl hp _ rfl (by omega)
  · cases hp : protoOk p with
    | true => exact fp_sfok p s w hs hl hp _ rfl (by simp [protoOk] at hp ⊢; omega)
    | false =>
      by_cases h1 : (p % 65536) % 2 = 1
      · by_cases h2 : (p % 65536 / 256) % 2 = 0
        · exact fp_snok p s w hs hl hp _ rfl (by simp [protoOk]; omega)
        · exact fp_snbit p s w hs hl hp _ rfl (by omega)
      · exact fp_sneven p s w hs hl hp _ rfl (by omega)
end Go.Proofs.Ythijchjdkicbdaa
