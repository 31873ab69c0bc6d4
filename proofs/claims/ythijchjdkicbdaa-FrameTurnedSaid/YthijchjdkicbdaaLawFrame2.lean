/- The walks of FrameMaps, FrameProtos, FrameHeads. -/
import Derived.Test.YthijchjdkicbdaaLawFrame
import Derived.Test.YthijchjdkicbdaaFramePlain
namespace Go.Proofs.Ythijchjdkicbdaa
open Go.RowKit Go.Crc
theorem stuff_length_ge (m : Int) (l : List UInt8) : l.length ≤ (stuff m l).length := by
  induction l with
  | nil => simp
  | cons c l ih =>
    rw [stuff_cons, List.length_append, List.length_cons]
    have : 1 ≤ (stuffB m c).length := by unfold stuffB; split <;> simp
    omega
theorem map_text (p : Int) (d : List UInt8) (m : Int) (hp : protoOk p = true) (hd : d.length ≤ 2048) : ∃ T, frameT p d m = (flagged T, 0) ∧ unframe T = (p, d, 0) ∧ unstuff T = (put (headB p ++ d), 0) ∧ T.length ≤ 4108 ∧ 6 ≤ T.length := by
  refine ⟨_, frameT_ok p d m hp hd, ?_, unstuff_stuff _ _, ?_, ?_⟩
  · rw [unframe_stuff _ _ (by simp [headB])]; exact unhead_head p d hp hd
  · have := stuff_length m (put (headB p ++ d))
    rw [put_length] at this
    simp [headB] at this
    simp [headB]
    omega
  · refine Nat.le_trans ?_ (stuff_length_ge _ _)
    rw [put_length]; simp [headB]
set_option maxRecDepth 100000 in
set_option maxHeartbeats 2000000 in
theorem frameMaps_walk (s : ByteArray) (a b : Int) (w : World) (hs : s.size ≤ maxLen) :
    Calls Try.prog 13 #[.string s, .int .i64 a, .int .i64 b] w fun e w' => e = .returned (.bool true) ∧ Below w.heap.size w w' := by
  have hs0 := hs
  unfold maxLen at hs
  by_cases hl : 2048 < s.size
  · go_enter Try.func13, Try.ntmps13
    go_wp2_with fail
    refine (awake3_any _).mono ?_
    rintro e w1 ⟨rfl, hb1⟩
    go_wp2_with fail
    go_ret
    exact ⟨rfl, allocB hb1 _⟩
  · obtain ⟨T, hT, hTu, hTs, hTl, hTg⟩ := map_text 33 s.data.toList a (by decide) (by rw [len_toList]; omega)
    obtain ⟨V, hV, hVu, hVs, hVl, hVg⟩ := map_text 33 s.data.toList b (by decide) (by rw [len_toList]; omega)
    have HT := Lib.hid hT
    have HTu := Lib.hid hTu
    have HTs := Lib.hid hTs
    have HV := Lib.hid hV
    have HVu := Lib.hid hVu
    have HVs := Lib.hid hVs
    clear hT hTu hTs hV hVu hVs
    have zT : (bytesOf (flagged T)).size = T.length + 2 := flagged_size T _ rfl
    have zV : (bytesOf (flagged V)).size = V.length + 2 := flagged_size V _ rfl
    have xT : (bytesOf (flagged T)).extract 1 (T.length + 1) = bytesOf T := slice_mid T _ rfl
    have xV : (bytesOf (flagged V)).extract 1 (V.length + 1) = bytesOf V := slice_mid V _ rfl
    have yT : (bytesOf T).size ≤ 140737488355328 := by rw [bytesOf_size]; omega
    have yV : (bytesOf V).size ≤ 140737488355328 := by rw [bytesOf_size]; omega
    have hq : ((bytesOf s.data.toList).toList == s.toList) = true := ba_beq_true rfl
    go_enter Try.func13, Try.ntmps13
    go_wp2_with fail
    refine (awake3_any _).mono ?_
    rintro e w1 ⟨rfl, hb1⟩
    go_wp2_with fail
    refine (fput_any _ _ _ _ hs0).mono ?_
    rintro e w2 ⟨rfl, hb2⟩
    rw [HT.out]
    have k0 := below_cell hb2 (a := ⟨w1.heap.size, 0, none⟩) (v := .int .i64 33) (by simp [World.cell?_alloc_new])
    have k1 := below_cell hb2 (a := ⟨w1.heap.size, 1, none⟩) (v := .string s) (by simp [World.cell?_alloc_new])
    have hB2 := seqB (allocB hb1 _) hb2
    clear hb1 hb2
    go_wp2_with fail
    refine (fput_any _ _ _ _ hs0).mono ?_
    rintro e w3 ⟨rfl, hb3⟩
    rw [HV.out]
    replace k0 := below_cell hb3 k0
    replace k1 := below_cell hb3 k1
    have hB3 := seqB hB2 hb3
    clear hB2 hb3
    go_wp2_with (go_at_call 20; refine (num_any _ _).mono ?_; rintro e w' ⟨rfl, rfl⟩)
    refine (fget_any _ _ yT).mono ?_
    rintro e w4 ⟨rfl, hb4⟩
    rw [bytesOf_toList, HTu.out]
    unfold ansF
    replace k0 := below_cell hb4 k0
    replace k1 := below_cell hb4 k1
    have hB4 := seqB hB3 hb4
    have hlt4 := block_lt_of_cell k0
    clear hB3 hb4
    go_wp2_with fail
    refine (fget_any _ _ yV).mono ?_
    rintro e w5 ⟨rfl, hb5⟩
    rw [bytesOf_toList, HVu.out]
    unfold ansF
    replace k0 := below_cell hb5 (a := ⟨w1.heap.size, 0, none⟩) (v := .int .i64 33) (by simp [World.cell?_alloc_past, hlt4, k0])
    replace k1 := below_cell hb5 (a := ⟨w1.heap.size, 1, none⟩) (v := .string s) (by simp [World.cell?_alloc_past, hlt4, k1])
    have p0 := below_cell hb5 (a := ⟨w4.heap.size, 0, none⟩) (v := .int .i64 33) (by simp [World.cell?_alloc_new])
    have p1 := below_cell hb5 (a := ⟨w4.heap.size, 1, none⟩) (v := .string (bytesOf s.data.toList)) (by simp [World.cell?_alloc_new])
    have hB5 := seqB (allocB hB4 _) hb5
    have hlt5 := block_lt_of_cell k0
    have hlt5' := block_lt_of_cell p0
    clear hB4 hb5
    go_wp2_with fail
    refine (sget_any _ _ yT).mono ?_
    rintro e w6 ⟨rfl, hb6⟩
    rw [bytesOf_toList, HTs.out]
    have q0 := below_cell hb6 (a := ⟨w5.heap.size, 0, none⟩) (v := .int .i64 33) (by simp [World.cell?_alloc_new])
    have q1 := below_cell hb6 (a := ⟨w5.heap.size, 1, none⟩) (v := .string (bytesOf s.data.toList)) (by simp [World.cell?_alloc_new])
    replace k0 := below_cell hb6 (a := ⟨w1.heap.size, 0, none⟩) (v := .int .i64 33) (by simp [World.cell?_alloc_past, hlt5, k0])
    replace k1 := below_cell hb6 (a := ⟨w1.heap.size, 1, none⟩) (v := .string s) (by simp [World.cell?_alloc_past, hlt5, k1])
    replace p0 := below_cell hb6 (a := ⟨w4.heap.size, 0, none⟩) (v := .int .i64 33) (by simp [World.cell?_alloc_past, hlt5', p0])
    replace p1 := below_cell hb6 (a := ⟨w4.heap.size, 1, none⟩) (v := .string (bytesOf s.data.toList)) (by simp [World.cell?_alloc_past, hlt5', p1])
    have hB6 := seqB (allocB hB5 _) hb6
    clear hB5 hb6
    go_wp2_with fail
    refine (sget_any _ _ yV).mono ?_
    rintro e w7 ⟨rfl, hb7⟩
    rw [bytesOf_toList, HVs.out]
    replace q0 := below_cell hb7 q0
    replace q1 := below_cell hb7 q1
    replace k0 := below_cell hb7 k0
    replace k1 := below_cell hb7 k1
    replace p0 := below_cell hb7 p0
    replace p1 := below_cell hb7 p1
    have hB7 := seqB hB6 hb7
    clear hB6 hb7
    go_wp2_with (go_at_call 20; refine (num_any _ _).mono ?_; rintro e w' ⟨rfl, rfl⟩)
    go_ret
    exact ⟨rfl, hB7⟩
end Go.Proofs.Ythijchjdkicbdaa
