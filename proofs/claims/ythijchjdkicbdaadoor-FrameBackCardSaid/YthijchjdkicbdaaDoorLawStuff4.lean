/- The walks of StuffParts and StuffMarks. -/
import Derived.Test.YthijchjdkicbdaaDoorLawStuff2
namespace Go.Proofs.YthijchjdkicbdaaDoor
open Go.RowKit
theorem cut_two (a b : List UInt8) (ha : 126 ∉ a) (hb : 126 ∉ b) : gotOf (126 :: (a ++ 126 :: b)) = (if a.isEmpty then [] else [a]) ∧ restOf (126 :: (a ++ 126 :: b)) = b := by
  have e : cut (126 :: (a ++ 126 :: b)) = [[], a, b] := by
    rw [cut, if_pos rfl, cut_append a b ha, cut_none b hb]
  unfold gotOf restOf
  simp only [e]
  refine ⟨?_, rfl⟩
  cases a <;> simp
set_option maxHeartbeats 1000000 in
theorem stuffParts_walk (a b : ByteArray) (m : Int) (ml : Int) (w : World) (ha : a.size ≤ 1048576) (hb : b.size ≤ 1048576) (hml : MaxLenIs w ml) :
    Calls Tryd.prog 8 #[.string a, .string b, .int .i64 m] w fun e w' => e = .returned (.bool true) ∧ Below w.heap.size w w' := by
  obtain ⟨A, hA⟩ : ∃ A, bytesOf (stuff m a.data.toList) = A := ⟨_, rfl⟩
  obtain ⟨B, hB⟩ : ∃ B, bytesOf (stuff m b.data.toList) = B := ⟨_, rfl⟩
  have zA : A.size ≤ 2097152 := by rw [← hA, bytesOf_size]; have := stuff_length m a.data.toList; rw [len_toList] at this; omega
  have zB : B.size ≤ 2097152 := by rw [← hB, bytesOf_size]; have := stuff_length m b.data.toList; rw [len_toList] at this; omega
  obtain ⟨X, hX⟩ : ∃ X, (⟨#[126]⟩ : ByteArray) ++ A ++ (⟨#[126]⟩ : ByteArray) ++ B = X := ⟨_, rfl⟩
  have hXl : X.data.toList = 126 :: (stuff m a.data.toList ++ 126 :: stuff m b.data.toList) := by
    rw [← hX, ← hA, ← hB]; simp [bytesOf]
  have zX : X.size < 4294967281 := by
    have z1 : (⟨#[126]⟩ : ByteArray).size = 1 := rfl
    rw [← hX]; simp only [ByteArray.size_append, z1]; omega
  obtain ⟨g1, g2⟩ := cut_two _ _ (stuff_noflag m a.data.toList) (stuff_noflag m b.data.toList)
  rw [← hXl] at g1 g2
  have hsum : bytesOf (stuff m (a ++ b).data.toList) = A ++ B := by
    rw [← hA, ← hB, bytesOf_append]; simp [stuff_append]
  have zab : (a ++ b).size ≤ 2097152 := by rw [ByteArray.size_append]; omega
  have G1 := Lib.hid g1
  have G2 := Lib.hid g2
  have HA := Lib.hid hA
  have HB := Lib.hid hB
  have HS := Lib.hid hsum
  clear g1 g2 hA hB hsum hXl
  go_enter Tryd.func8, Tryd.ntmps8
  go_wp2_with fail
  refine (awake2_any ml _ hml).mono ?_
  rintro e w1 ⟨rfl, hb1⟩
  go_wp2_with fail
  refine (sput_any _ _ _ (by omega)).mono ?_
  rintro e w2 ⟨rfl, hb2⟩
  rw [HA.out]
  go_wp2_with fail
  refine (sput_any _ _ _ (by omega)).mono ?_
  rintro e w3 ⟨rfl, hb3⟩
  rw [HB.out]
  have hB3 := seqB (seqB hb1 hb2) hb3
  clear hb1 hb2 hb3
  have n1 : ¬ (9223372036854775807 : Int) < 1 + A.size := by omega
  have n2 : ¬ (9223372036854775807 : Int) < 1 + A.size + 1 := by omega
  have n3 : ¬ (9223372036854775807 : Int) < 1 + A.size + 1 + B.size := by omega
  go_wp2_with fail
  refine (ssplit_any _ ml _ zX (hml.below hB3)).mono ?_
  rintro e w4 ⟨v, rfl, hown, hb4⟩
  rw [G2.out, HB.out]
  rw [G1.out] at hown
  have hB4 := seqB hB3 hb4
  clear hB3 hb4
  obtain ⟨ad, c, rfl⟩ := hown.form
  clear hown
  have n4 : ¬ (9223372036854775807 : Int) < a.size + b.size := by omega
  have n5 : ¬ (9223372036854775807 : Int) < A.size + B.size := by omega
  by_cases h0 : a.data.toList = []
  · have qa : a.toList = [] := by rw [ba_toList]; exact h0
    have hl : ((if (stuff m a.data.toList).isEmpty = true then [] else [stuff m a.data.toList]).map bytesOf).length = 0 := by rw [h0]; rfl
    rw [hl]
    clear hl h0
    go_wp2_with fail
    refine (sput_any _ _ _ (by omega)).mono ?_
    rintro e w5 ⟨rfl, hb5⟩
    rw [HS.out]
    have hB5 := seqB hB4 hb5
    clear hB4 hb5
    go_wp2_with fail
    refine (sput_any _ _ _ (by omega)).mono ?_
    rintro e w6 ⟨rfl, hb6⟩
    rw [HA.out]
    have hB6 := seqB hB5 hb6
    clear hB5 hb6
    go_wp2_with fail
    refine (sput_any _ _ _ (by omega)).mono ?_
    rintro e w7 ⟨rfl, hb7⟩
    rw [HB.out]
    have hB7 := seqB hB6 hb7
    clear hB6 hb7
    go_wp2_with fail
    refine (sput_any _ _ _ (by omega)).mono ?_
    rintro e w8 ⟨rfl, hb8⟩
    rw [HB.out]
    have hB8 := seqB hB7 hb8
    go_wp2_with fail
    go_ret
    exact ⟨rfl, hB8⟩
  · have qa : (a.toList == []) = false := by rw [ba_toList]; exact beq_eq_false_iff_ne.2 h0
    have hl : ((if (stuff m a.data.toList).isEmpty = true then [] else [stuff m a.data.toList]).map bytesOf).length = 1 := by
      rw [if_neg]
      · rfl
      · intro e
        rw [List.isEmpty_iff] at e
        have := stuff_count m a.data.toList
        rw [e] at this
        rw [List.length_nil] at this
        exact h0 (List.eq_nil_of_length_eq_zero (by omega))
    rw [hl]
    clear hl h0
    go_wp2_with fail
    refine (sput_any _ _ _ (by omega)).mono ?_
    rintro e w5 ⟨rfl, hb5⟩
    rw [HS.out]
    have hB5 := seqB hB4 hb5
    clear hB4 hb5
    go_wp2_with fail
    refine (sput_any _ _ _ (by omega)).mono ?_
    rintro e w6 ⟨rfl, hb6⟩
    rw [HA.out]
    have hB6 := seqB hB5 hb6
    clear hB5 hb6
    go_wp2_with fail
    refine (sput_any _ _ _ (by omega)).mono ?_
    rintro e w7 ⟨rfl, hb7⟩
    rw [HB.out]
    have hB7 := seqB hB6 hb7
    clear hB6 hb7
    go_wp2_with fail
    refine (sput_any _ _ _ (by omega)).mono ?_
    rintro e w8 ⟨rfl, hb8⟩
    rw [HB.out]
    have hB8 := seqB hB7 hb8
    go_wp2_with fail
    go_ret
    exact ⟨rfl, hB8⟩
theorem un_stuff_append (m : Int) (l r : List UInt8) : un (stuff m l ++ r) = (un r).map (l ++ ·) := by
  induction l with
  | nil => simp [stuff]
  | cons c l ih =>
    rw [stuff_cons]
    unfold stuffB
    split
    · rename_i hm
      show un (125 :: (c ^^^ 32) :: (stuff m l ++ r)) = _
      rw [un_mark, ih, (marked_map c m hm).2, Option.map_map]; rfl
    · rename_i hm
      show un (c :: (stuff m l ++ r)) = _
      rw [un_plain (unmarked_ne c m (by simpa using hm)).1, ih, Option.map_map]; rfl
theorem un_mark_end (t : List UInt8) (b : UInt8) (m : Int) (hb : b ≠ 126) : unstuff (stuff m t ++ [125, b]) = (t ++ [b ^^^ 32], 0) := by
  unfold unstuff
  rw [if_neg, un_stuff_append, un_mark]
  · simp [un]
  · rw [List.mem_append]
    rintro (h | h)
    · exact stuff_noflag m t h
    · simp at h; exact hb h.symm
theorem un_mark_flag (t : List UInt8) (m : Int) : unstuff (stuff m t ++ [125, 126]) = ([], 201) := by
  unfold unstuff; rw [if_pos (by simp)]
theorem un_mark_none (t : List UInt8) (m : Int) : unstuff (stuff m t ++ [125]) = ([], 200) := by
  unfold unstuff
  rw [if_neg, un_stuff_append, un_end]
  · rfl
  · rw [List.mem_append]
    rintro (h | h)
    · exact stuff_noflag m t h
    · simp at h
set_option maxHeartbeats 1000000 in
theorem stuffMarks_walk (s : ByteArray) (c : Int) (ml : Int) (w : World) (hs : s.size ≤ 1048576) (hml : MaxLenIs w ml) :
    Calls Tryd.prog 7 #[.string s, .int .i64 c] w fun e w' => e = .returned (.bool true) ∧ Below w.heap.size w w' := by
  obtain ⟨A, hA⟩ : ∃ A, bytesOf (stuff 0 s.data.toList) = A := ⟨_, rfl⟩
  have zA : A.size ≤ 2097152 := by rw [← hA, bytesOf_size]; have := stuff_length 0 s.data.toList; rw [len_toList] at this; omega
  obtain ⟨b, hb⟩ : ∃ b : UInt8, c % 256 = (b.toNat : Int) := ⟨byteAt c, (byteAt_nat c).symm⟩
  obtain ⟨X, hX⟩ : ∃ X, A ++ strOfNums [125, (b.toNat : Int)] = X := ⟨_, rfl⟩
  obtain ⟨Y, hY⟩ : ∃ Y, A ++ (⟨#[125]⟩ : ByteArray) = Y := ⟨_, rfl⟩
  have hs2 : strOfNums [125, (b.toNat : Int)] = bytesOf [125, b] := by rw [strOfNums_bytes]; simp
  have hXl : X.data.toList = stuff 0 s.data.toList ++ [125, b] := by rw [← hX, ← hA, hs2]; simp [bytesOf]
  have hYl : Y.data.toList = stuff 0 s.data.toList ++ [125] := by rw [← hY, ← hA]; simp [bytesOf]
  have zs2 : (strOfNums [125, (b.toNat : Int)]).size = 2 := rfl
  have zX : X.size ≤ 140737488355328 := by rw [← hX, ByteArray.size_append, zs2]; omega
  have zY : Y.size ≤ 140737488355328 := by
    have z1 : (⟨#[125]⟩ : ByteArray).size = 1 := rfl
    rw [← hY, ByteArray.size_append, z1]; omega
  have uY : unstuff Y.data.toList = ([], 200) := by rw [hYl]; exact un_mark_none _ _
  have HA := Lib.hid hA
  have HX := Lib.hid hXl
  have HY := Lib.hid uY
  clear hA hXl hYl uY hs2
  have n1 : ¬ (9223372036854775807 : Int) < A.size + 2 := by omega
  have n2 : ¬ (9223372036854775807 : Int) < A.size + 1 := by omega
  have hcv := conv2
  by_cases h6 : b = 126
  · have uX : Hid (unstuff X.data.toList = ([], 201)) := Lib.hid (by rw [HX.out, h6]; exact un_mark_flag _ _)
    have e1 : ((b.toNat : Int) == 126) = true := by rw [h6]; rfl
    clear h6
    go_enter Tryd.func7, Tryd.ntmps7
    go_wp2_with fail
    refine (awake2_any ml _ hml).mono ?_
    rintro e w1 ⟨rfl, hb1⟩
    go_wp2_with fail
    refine (sput_any _ _ _ (by omega)).mono ?_
    rintro e w2 ⟨rfl, hb2⟩
    rw [HA.out]
    have hB2 := seqB hb1 hb2
    clear hb1 hb2
    go_wp2_with fail
    refine (sget_any _ _ zX).mono ?_
    rintro e w3 ⟨rfl, hb3⟩
    rw [uX.out]
    have hB3 := seqB (allocB hB2 _) hb3
    clear hB2 hb3
    go_wp2_with fail
    refine (sget_any _ _ zY).mono ?_
    rintro e w4 ⟨rfl, hb4⟩
    rw [HY.out]
    have hB4 := seqB hB3 hb4
    clear hB3 hb4
    have q1 : (bytesOf []).toList = [] := ba_toList _
    go_wp2_with (go_at_call 16; refine (num_any _ _).mono ?_; rintro e w' ⟨rfl, rfl⟩)
    go_ret
    exact ⟨rfl, hB4⟩
  · have uX : Hid (unstuff X.data.toList = (s.data.toList ++ [b ^^^ 32], 0)) := Lib.hid (by rw [HX.out]; exact un_mark_end _ _ _ h6)
    have e1 : ((b.toNat : Int) == 126) = false := u8_beq h6
    have hxr := u8_xor32 b
    obtain ⟨nb, hnb⟩ : ∃ nb : UInt8, nb = b ^^^ 32 := ⟨_, rfl⟩
    rw [← hnb] at hxr uX
    clear h6 hnb
    have hs1 : strOfNums [(nb.toNat : Int)] = bytesOf [nb] := by rw [strOfNums_bytes]; simp
    have hq : ((bytesOf (s.data.toList ++ [nb])).toList == (s ++ strOfNums [(nb.toNat : Int)]).toList) = true := ba_beq_true (by rw [hs1]; simp [bytesOf])
    have zs1 : (strOfNums [(nb.toNat : Int)]).size = 1 := rfl
    have n3 : ¬ (9223372036854775807 : Int) < s.size + 1 := by omega
    clear hs1
    have hcv1 : ∀ (w : World) (a : Int), (convert 37 9 (.slice (some ⟨w.heap.size, 0, none⟩) 1 1)).run Tryd.prog (w.alloc (.cells #[.int .u8 a] 5)) = .ok (.string (strOfNums [a])) (w.alloc (.cells #[.int .u8 a] 5)) :=
      fun w a => conv_row w _ _ _ Tryd.underlying37 Tryd.underlying5 Tryd.underlying9 [a] 1 rfl
    go_enter Tryd.func7, Tryd.ntmps7
    go_wp2_with fail
    refine (awake2_any ml _ hml).mono ?_
    rintro e w1 ⟨rfl, hb1⟩
    go_wp2_with fail
    refine (sput_any _ _ _ (by omega)).mono ?_
    rintro e w2 ⟨rfl, hb2⟩
    rw [HA.out]
    have hB2 := seqB hb1 hb2
    clear hb1 hb2
    go_wp2_with fail
    refine (sget_any _ _ zX).mono ?_
    rintro e w3 ⟨rfl, hb3⟩
    rw [uX.out]
    have hB3 := seqB (allocB hB2 _) hb3
    clear hB2 hb3
    go_wp2_with fail
    refine (sget_any _ _ zY).mono ?_
    rintro e w4 ⟨rfl, hb4⟩
    rw [HY.out]
    have hB4 := seqB hB3 hb4
    clear hB3 hb4
    have q1 : (bytesOf []).toList = [] := ba_toList _
    go_wp2_with (go_at_call 16; refine (num_any _ _).mono ?_; rintro e w' ⟨rfl, rfl⟩)
    go_ret
    exact ⟨rfl, allocB hB4 _⟩
end Go.Proofs.YthijchjdkicbdaaDoor
