/- ConsoleFrames walked. -/
import Derived.Test.YteigigepmoicaaaGreatDoorCon24
import Derived.Test.YteigigepmoicaaaGreatDoorCon19
import Derived.Test.YteigigepmoicaaaGreatDoorCon21
namespace Go.Proofs.YteigigepmoicaaaGreatDoor
open Go.RowKit Go.Crc
set_option linter.unusedVariables false
set_option linter.unusedSimpArgs false
theorem proto_made (p : Int) : ∃ q : Int, bits BinOp.or IntKind.i64 (bits BinOp.and IntKind.i64 p 65278) 1 = q ∧ protoOk q = true ∧ 1 ≤ q ∧ q ≤ 65535 := by
  have h1 : (BitVec.ofInt 64 (65278 : Int)).toNat = 65278 := ofInt_i64 65278 (by decide)
  obtain ⟨v, hv⟩ : ∃ v, (BitVec.ofInt 64 p).toNat = v := ⟨_, rfl⟩
  have hle : v &&& 65278 ≤ 65278 := Nat.and_le_right
  have e1 : bits BinOp.and IntKind.i64 p 65278 = ((v &&& 65278 : Nat) : Int) := by
    show IntKind.i64.wrap ((BitVec.ofInt 64 p &&& BitVec.ofInt 64 (65278 : Int)).toNat : Int) = _
    rw [BitVec.toNat_and, h1, hv, IntKind.wrap_i64]
    omega
  have e2 := i64_or_nat (v &&& 65278) 1 (by omega) (by decide)
  rw [show ((1 : Nat) : Int) = 1 from rfl] at e2
  have hlt : (v &&& 65278) ||| 1 < 2 ^ 16 := Nat.or_lt_two_pow (by omega) (by decide)
  have t0 : ((v &&& 65278) ||| 1).testBit 0 = true := by rw [Nat.testBit_or]; simp
  have t8 : ((v &&& 65278) ||| 1).testBit 8 = false := by
    rw [Nat.testBit_or, Nat.testBit_and, show Nat.testBit 65278 8 = false by decide, show Nat.testBit 1 8 = false by decide]
    simp
  rw [Nat.testBit_eq_decide_div_mod_eq] at t0 t8
  have t0' := of_decide_eq_true t0
  have t8' := of_decide_eq_false t8
  obtain ⟨N, hN⟩ : ∃ N, (v &&& 65278) ||| 1 = N := ⟨_, rfl⟩
  rw [hN] at hlt t0' t8' e2
  refine ⟨(N : Int), by rw [e1, e2], ?_, by omega, by omega⟩
  unfold protoOk
  simp only [Bool.and_eq_true, decide_eq_true_eq, beq_iff_eq]
  omega
theorem stuff_len1 (q : Int) (y : List UInt8) : 1 ≤ (stuff 0 (put (headB q ++ y))).length := by
  have h : ∀ (l : List UInt8), l.length ≤ (stuff 0 l).length := by
    intro l
    induction l with
    | nil => simp
    | cons c l ih =>
      rw [stuff_cons, List.length_append, List.length_cons]
      have : 1 ≤ (stuffB 0 c).length := by unfold stuffB; split <;> simp
      omega
  have h2 := h (put (headB q ++ y))
  rw [put_length] at h2
  omega
theorem hexL_app2 (a b : List UInt8) : hexL (a ++ b) = hexL a ++ hexL b := by simp [hexL]
theorem hexM_ne' {l : List UInt8} (h : l ≠ []) : hexM l = hexL l := by
  unfold hexM
  rw [if_neg (by simpa using h)]
theorem frame_hex (q : Int) (y : List UInt8) (hq : protoOk q = true) (hy : y.length ≤ 2048) : (frameT q y 0).2 = 0 ∧ hexM (frameT q y 0).1 = [55, 101] ++ hexL (stuff 0 (put (headB q ++ y))) ++ [55, 101] := by
  have e : frameT q y 0 = ([126] ++ stuff 0 (put (headB q ++ y)) ++ [126], 0) := by
    unfold frameT; rw [if_neg (by rw [hq]; decide), if_neg (by omega)]
  rw [e]
  refine ⟨rfl, ?_⟩
  rw [hexM_ne' (by simp), hexL_app2, hexL_app2]
  rfl
theorem lrun_frame (q : Int) (y : List UInt8) (hq : protoOk q = true) (h1 : 1 ≤ q) (h2 : q ≤ 65535) (hy : y.length ≤ 2048) : runM (joinW [nFrame, itoaM q, hexM y]) = ([55, 101] ++ hexL (stuff 0 (put (headB q ++ y))) ++ [55, 101]) ++ [10] := by
  obtain ⟨f1, f2⟩ := frame_hex q y hq hy
  rw [run_join _ (by
    intro w hw
    simp only [List.mem_cons, List.not_mem_nil, or_false] at hw
    rcases hw with rfl | rfl | rfl
    · exact wordG_dec (by decide)
    · exact wordG_itoa q (by omega) (by omega)
    · exact wordG_hex y) rfl, line_frame]
  rw [if_neg (by simp), show [itoaM q, hexM y].getD 0 [] = itoaM q from rfl, show [itoaM q, hexM y].getD 1 [] = hexM y from rfl, num_itoa q (by omega) (by omega), unhex_hex]
  dsimp only
  rw [if_neg (by simpa using f1), f2]
theorem lrun_unframe (q : Int) (y : List UInt8) (hq : protoOk q = true) (hy : y.length ≤ 2048) : runM (joinW [nUnframe, hexM (stuff 0 (put (headB q ++ y)))]) = itoaM q ++ [32] ++ hexM y ++ [10] := by
  rw [run_join _ (by
    intro w hw
    simp only [List.mem_cons, List.not_mem_nil, or_false] at hw
    rcases hw with rfl | rfl
    · exact wordG_dec (by decide)
    · exact wordG_hex _) rfl]
  rw [line_one nUnframe [hexM (stuff 0 (put (headB q ++ y)))] rfl, if_neg (by simp)]
  simp only [List.getD_cons_zero, unhex_hex]
  have hu : unframe (stuff 0 (put (headB q ++ y))) = (q, y, 0) := by
    rw [unframe_stuff 0 _ (by simp [headB]), unhead_head q y hq hy]
  have ht : tellM nUnframe [] [stuff 0 (put (headB q ++ y))] = (itoaM q ++ [32] ++ hexM y, 0) := by
    unfold tellM
    rw [if_neg (by decide), if_neg (by decide), if_pos rfl]
    simp only [List.getD_cons_zero, hu]
  first
    | (rw [ht]; rfl)
    | (simp only [tellW, ht]; rfl)
theorem cat_frame (a d : List UInt8) : (⟨#[102, 114, 97, 109, 101, 32]⟩ : ByteArray) ++ bytesOf a ++ ⟨#[32]⟩ ++ bytesOf d = bytesOf (joinW [nFrame, a, d]) := by
  apply ba_ext
  simp [bytesOf, joinW, nFrame]
theorem cat_unframe (d : List UInt8) : (⟨#[117, 110, 102, 114, 97, 109, 101, 32]⟩ : ByteArray) ++ bytesOf d = bytesOf (joinW [nUnframe, d]) := by
  apply ba_ext
  simp [bytesOf, joinW, nUnframe]
theorem cat_back (a d : List UInt8) : bytesOf a ++ (⟨#[32]⟩ : ByteArray) ++ bytesOf d ++ ⟨#[10]⟩ = bytesOf (a ++ [32] ++ d ++ [10]) := by
  apply ba_ext
  simp [bytesOf]
theorem stuff_le (l : List UInt8) : (stuff 0 l).length ≤ 2 * l.length := by
  induction l with
  | nil => simp [stuff]
  | cons c l ih =>
    rw [stuff_cons, List.length_append, List.length_cons]
    have : (stuffB 0 c).length ≤ 2 := by unfold stuffB; split <;> simp
    omega
/-- what is cut out of a frame's line -/
theorem cut_line (S : List UInt8) (T : ByteArray) (hT : T = bytesOf (([55, 101] ++ S ++ [55, 101]) ++ [10])) : T.size = S.length + 5 ∧ T.extract 0 2 = ⟨#[55, 101]⟩ ∧ T.extract (S.length + 2) T.size = ⟨#[55, 101, 10]⟩ ∧ T.extract 2 (S.length + 2) = bytesOf S := by
  subst hT
  have hs : (bytesOf (([55, 101] ++ S ++ [55, 101]) ++ [10])).size = S.length + 5 := by rw [bytesOf_size]; simp
  refine ⟨hs, ?_, ?_, ?_⟩
  · apply ba_ext; rw [extract_toList]; rfl
  · apply ba_ext
    rw [extract_toList, hs, show (bytesOf (([55, 101] ++ S ++ [55, 101]) ++ [10])).data.toList = ([55, 101] ++ S) ++ [55, 101, 10] by simp [bytesOf]]
    rw [List.drop_append_of_le_length (by simp), List.drop_of_length_le (by simp)]
    rw [show S.length + 5 - (S.length + 2) = 3 by omega]
    rfl
  · apply ba_ext
    rw [extract_toList, show (bytesOf (([55, 101] ++ S ++ [55, 101]) ++ [10])).data.toList = [55, 101] ++ (S ++ [55, 101, 10]) by simp [bytesOf]]
    have e : ([55, 101] ++ (S ++ [55, 101, 10])).drop 2 = S ++ [55, 101, 10] := rfl
    rw [show S.length + 2 - 2 = S.length by omega, e, List.take_left]
    rfl
theorem join3_len (a b c : List UInt8) : (joinW [a, b, c]).length = a.length + b.length + c.length + 2 := by simp [joinW]; omega
theorem join2_len' (a b : List UInt8) : (joinW [a, b]).length = a.length + b.length + 1 := by simp [joinW]; omega
theorem beq_same' (b : ByteArray) : (b.toList == b.toList) = true := beq_self_eq_true _
set_option maxRecDepth 100000 in
set_option maxHeartbeats 4000000 in
theorem lframes_short (p : Int) (a0 : ByteArray) (ml : Int) (w : World) (h : a0.size ≤ 200) (ht : TabW w) (hm : MaxLenIs w ml) :
    Calls Tryz.prog 5 #[.int .i64 p, .string a0] w fun e w' => e = .returned (.bool true) ∧ Below w.heap.size w w' := by
  have haw := fun w ht hm => awake28_any ml w ht hm
  have hk : ¬ (200 : Int) < a0.size := by omega
  have hDs : a0.size ≤ 200 := h
  obtain ⟨D, hD⟩ : ∃ D, a0 = D := ⟨_, rfl⟩
  rw [hD] at hk hDs ⊢
  clear hD
  obtain ⟨q, hq, hpo, hq1, hq2⟩ := proto_made p
  have hx := fun w => lhex_any D w (by omega)
  have hyl : D.data.toList.length = D.size := len_toList D
  obtain ⟨y, hy⟩ : ∃ y, D.data.toList = y := ⟨_, rfl⟩
  rw [hy] at hx hyl
  have hdc := fun w => decimal_any q (by omega) (by omega) w
  have hrf := lrun_frame q y hpo hq1 hq2 (by omega)
  have hru := lrun_unframe q y hpo (by omega)
  have hS1 := stuff_len1 q y
  have hS2 := stuff_le (put (headB q ++ y))
  rw [put_length] at hS2
  have hS3 : (headB q ++ y).length = 4 + y.length := by simp [headB]; omega
  obtain ⟨S0, hS0⟩ : ∃ S, stuff 0 (put (headB q ++ y)) = S := ⟨_, rfl⟩
  rw [hS0] at hrf hru hS1 hS2
  have hhm : hexM S0 = hexL S0 := hexM_ne' (fun e => by rw [e] at hS1; simp at hS1)
  rw [hhm] at hru
  have hSl := hexL_length S0
  obtain ⟨S, hS⟩ : ∃ S, hexL S0 = S := ⟨_, rfl⟩
  rw [hS] at hrf hru hSl
  obtain ⟨T, hT⟩ : ∃ T, bytesOf (([55, 101] ++ S ++ [55, 101]) ++ [10]) = T := ⟨_, rfl⟩
  obtain ⟨t1, t2, t3, t4⟩ := cut_line S T hT.symm
  obtain ⟨k, hk2⟩ : ∃ k, S.length + 2 = k := ⟨_, rfl⟩
  rw [hk2] at t3 t4
  have c1 := cat_frame (itoaM q) (hexM y)
  have c2 := cat_unframe S
  have c3 := cat_back (itoaM q) (hexM y)
  have l1 := join3_len nFrame (itoaM q) (hexM y)
  have l2 := join2_len' nUnframe S
  have n1 : nFrame.length = 5 := rfl
  have n2 : nUnframe.length = 7 := rfl
  have hl := hexM_len y
  have hi := itoa_len' q
  have r1 := fun w ht hm => run_any (bytesOf (joinW [nFrame, itoaM q, hexM y])) ml w (by rw [bytesOf_size]; omega) ht hm
  rw [show (bytesOf (joinW [nFrame, itoaM q, hexM y])).data.toList = joinW [nFrame, itoaM q, hexM y] from rfl, hrf, hT] at r1
  have r2 := fun w ht hm => run_any (bytesOf (joinW [nUnframe, S])) ml w (by rw [bytesOf_size]; omega) ht hm
  rw [show (bytesOf (joinW [nUnframe, S])).data.toList = joinW [nUnframe, S] from rfl, hru] at r2
  have z1 : (bytesOf (itoaM q)).size ≤ 21 := by rw [bytesOf_size]; exact hi
  have z2 : (bytesOf (hexM y)).size ≤ 500 := by rw [bytesOf_size]; omega
  have z3 : (bytesOf S).size ≤ 5000 := by rw [bytesOf_size]; omega
  obtain ⟨XQ, hXQ⟩ : ∃ X, bytesOf (itoaM q) = X := ⟨_, rfl⟩
  obtain ⟨XH, hXH⟩ : ∃ X, bytesOf (hexM y) = X := ⟨_, rfl⟩
  obtain ⟨XS, hXS⟩ : ∃ X, bytesOf S = X := ⟨_, rfl⟩
  obtain ⟨J1, hJ1⟩ : ∃ X, bytesOf (joinW [nFrame, itoaM q, hexM y]) = X := ⟨_, rfl⟩
  obtain ⟨J2, hJ2⟩ : ∃ X, bytesOf (joinW [nUnframe, S]) = X := ⟨_, rfl⟩
  obtain ⟨U, hU⟩ : ∃ X, bytesOf (itoaM q ++ [32] ++ hexM y ++ [10]) = X := ⟨_, rfl⟩
  rw [hXQ] at hdc c1 c3 z1
  rw [hXH] at hx c1 c3 z2
  rw [hXS] at c2 z3 t4
  rw [hJ1] at c1 r1
  rw [hJ2] at c2 r2
  rw [hU] at c3 r2
  have C1 := Lib.hid c1
  have C2 := Lib.hid c2
  have hne1 : ((T.extract 0 2).toList == [55, 101]) = true := by rw [t2, ba_toList]; decide
  have hne2 : ((T.extract k T.size).toList == [55, 101, 10]) = true := by rw [t3, ba_toList]; decide
  have hk5 : 4 ≤ k := by omega
  have hTk : T.size = k + 3 := by omega
  have hTi : (T.size : Int) - 3 = (k : Int) := by omega
  have hT6 : ¬ (T.size : Int) < 6 := by omega
  have hT6d : decide ((T.size : Int) < 6) = false := decide_eq_false hT6
  have hTb : (2 : Int) ≤ (T.size : Int) := by omega
  have hTc : (k : Int) ≤ (T.size : Int) := by omega
  have hTd : (2 : Int) ≤ (k : Int) := by omega
  have hwr : wrap64 (k : Int) = k := IntWalk.wrap64_in _ ⟨by omega, by omega⟩
  have C3 : ((U.toList) == (XQ ++ (⟨#[32]⟩ : ByteArray) ++ XH ++ ⟨#[10]⟩).toList) = true := by rw [c3]; exact beq_same' U
  have g1 : ¬ 9223372036854775807 < 6 + XQ.size := by omega
  have g2 : ¬ 9223372036854775807 < 6 + XQ.size + 1 := by omega
  have g3 : ¬ 9223372036854775807 < 6 + XQ.size + 1 + XH.size := by omega
  have g4 : ¬ 9223372036854775807 < 8 + XS.size := by omega
  have g5 : ¬ 9223372036854775807 < XQ.size + 1 := by omega
  have g6 : ¬ 9223372036854775807 < XQ.size + 1 + XH.size := by omega
  have g7 : ¬ 9223372036854775807 < XQ.size + 1 + XH.size + 1 := by omega
  have HTK := Lib.hid hTk
  clear c1 c2 c3 l1 l2 n1 n2 hl hi t1 t2 t3 hXQ hXH hXS hJ1 hJ2 hU hT hS hSl hhm hS0 hS1 hS2 hS3 hru hrf hy hyl hk2 hTk
  go_enter Tryz.func5, Tryz.ntmps5
  go_wp2_with fail
  refine (haw _ ht hm).mono ?_
  rintro e w1 ⟨rfl, hb1⟩
  go_wp2_with fail
  refine (hdc _).mono ?_
  rintro e w2 ⟨rfl, hb2⟩
  have hB2 := seqB hb1 hb2
  go_wp2_with fail
  refine (hx _).mono ?_
  rintro e w3 ⟨rfl, hb3⟩
  have hB3 := seqB hB2 hb3
  go_wp2_with fail
  rw [C1.out]
  refine (r1 _ (ht.below hB3) (hm.below hB3)).mono ?_
  rintro e w4 ⟨rfl, hb4⟩
  have hB4 := seqB hB3 hb4
  go_wp2_with (go_at_call 12; refine (num_any _ _).mono ?_; rintro e w' ⟨rfl, rfl⟩)
  rw [C2.out]
  refine (r2 _ (ht.below hB4) (hm.below hB4)).mono ?_
  rintro e w5 ⟨rfl, hb5⟩
  have hB5 := seqB hB4 hb5
  go_wp2_with (go_at_call 12; refine (num_any _ _).mono ?_; rintro e w' ⟨rfl, rfl⟩)
  refine (hdc _).mono ?_
  rintro e w6 ⟨rfl, hb6⟩
  have hB6 := seqB hB5 hb6
  go_wp2_with fail
  refine (hx _).mono ?_
  rintro e w7 ⟨rfl, hb7⟩
  go_wp2_with fail
  go_ret
  exact ⟨rfl, seqB hB6 hb7⟩
set_option maxRecDepth 100000 in
set_option maxHeartbeats 4000000 in
theorem lframes_long (p : Int) (a0 : ByteArray) (ml : Int) (w : World) (h : 200 < a0.size) (ht : TabW w) (hm : MaxLenIs w ml) :
    Calls Tryz.prog 5 #[.int .i64 p, .string a0] w fun e w' => e = .returned (.bool true) ∧ Below w.heap.size w w' := by
  have haw := fun w ht hm => awake28_any ml w ht hm
  have hk : (200 : Int) < a0.size := by omega
  have hDs : (a0.extract 0 200).size ≤ 200 := by rw [prefix_size _ _ (by omega)]; exact Nat.le_refl _
  obtain ⟨D, hD⟩ : ∃ D, a0.extract 0 200 = D := ⟨_, rfl⟩
  rw [hD] at hDs
  have HD := Lib.hid hD
  clear hD
  obtain ⟨q, hq, hpo, hq1, hq2⟩ := proto_made p
  have hx := fun w => lhex_any D w (by omega)
  have hyl : D.data.toList.length = D.size := len_toList D
  obtain ⟨y, hy⟩ : ∃ y, D.data.toList = y := ⟨_, rfl⟩
  rw [hy] at hx hyl
  have hdc := fun w => decimal_any q (by omega) (by omega) w
  have hrf := lrun_frame q y hpo hq1 hq2 (by omega)
  have hru := lrun_unframe q y hpo (by omega)
  have hS1 := stuff_len1 q y
  have hS2 := stuff_le (put (headB q ++ y))
  rw [put_length] at hS2
  have hS3 : (headB q ++ y).length = 4 + y.length := by simp [headB]; omega
  obtain ⟨S0, hS0⟩ : ∃ S, stuff 0 (put (headB q ++ y)) = S := ⟨_, rfl⟩
  rw [hS0] at hrf hru hS1 hS2
  have hhm : hexM S0 = hexL S0 := hexM_ne' (fun e => by rw [e] at hS1; simp at hS1)
  rw [hhm] at hru
  have hSl := hexL_length S0
  obtain ⟨S, hS⟩ : ∃ S, hexL S0 = S := ⟨_, rfl⟩
  rw [hS] at hrf hru hSl
  obtain ⟨T, hT⟩ : ∃ T, bytesOf (([55, 101] ++ S ++ [55, 101]) ++ [10]) = T := ⟨_, rfl⟩
  obtain ⟨t1, t2, t3, t4⟩ := cut_line S T hT.symm
  obtain ⟨k, hk2⟩ : ∃ k, S.length + 2 = k := ⟨_, rfl⟩
  rw [hk2] at t3 t4
  have c1 := cat_frame (itoaM q) (hexM y)
  have c2 := cat_unframe S
  have c3 := cat_back (itoaM q) (hexM y)
  have l1 := join3_len nFrame (itoaM q) (hexM y)
  have l2 := join2_len' nUnframe S
  have n1 : nFrame.length = 5 := rfl
  have n2 : nUnframe.length = 7 := rfl
  have hl := hexM_len y
  have hi := itoa_len' q
  have r1 := fun w ht hm => run_any (bytesOf (joinW [nFrame, itoaM q, hexM y])) ml w (by rw [bytesOf_size]; omega) ht hm
  rw [show (bytesOf (joinW [nFrame, itoaM q, hexM y])).data.toList = joinW [nFrame, itoaM q, hexM y] from rfl, hrf, hT] at r1
  have r2 := fun w ht hm => run_any (bytesOf (joinW [nUnframe, S])) ml w (by rw [bytesOf_size]; omega) ht hm
  rw [show (bytesOf (joinW [nUnframe, S])).data.toList = joinW [nUnframe, S] from rfl, hru] at r2
  have z1 : (bytesOf (itoaM q)).size ≤ 21 := by rw [bytesOf_size]; exact hi
  have z2 : (bytesOf (hexM y)).size ≤ 500 := by rw [bytesOf_size]; omega
  have z3 : (bytesOf S).size ≤ 5000 := by rw [bytesOf_size]; omega
  obtain ⟨XQ, hXQ⟩ : ∃ X, bytesOf (itoaM q) = X := ⟨_, rfl⟩
  obtain ⟨XH, hXH⟩ : ∃ X, bytesOf (hexM y) = X := ⟨_, rfl⟩
  obtain ⟨XS, hXS⟩ : ∃ X, bytesOf S = X := ⟨_, rfl⟩
  obtain ⟨J1, hJ1⟩ : ∃ X, bytesOf (joinW [nFrame, itoaM q, hexM y]) = X := ⟨_, rfl⟩
  obtain ⟨J2, hJ2⟩ : ∃ X, bytesOf (joinW [nUnframe, S]) = X := ⟨_, rfl⟩
  obtain ⟨U, hU⟩ : ∃ X, bytesOf (itoaM q ++ [32] ++ hexM y ++ [10]) = X := ⟨_, rfl⟩
  rw [hXQ] at hdc c1 c3 z1
  rw [hXH] at hx c1 c3 z2
  rw [hXS] at c2 z3 t4
  rw [hJ1] at c1 r1
  rw [hJ2] at c2 r2
  rw [hU] at c3 r2
  have C1 := Lib.hid c1
  have C2 := Lib.hid c2
  have hne1 : ((T.extract 0 2).toList == [55, 101]) = true := by rw [t2, ba_toList]; decide
  have hne2 : ((T.extract k T.size).toList == [55, 101, 10]) = true := by rw [t3, ba_toList]; decide
  have hk5 : 4 ≤ k := by omega
  have hTk : T.size = k + 3 := by omega
  have hTi : (T.size : Int) - 3 = (k : Int) := by omega
  have hT6 : ¬ (T.size : Int) < 6 := by omega
  have hT6d : decide ((T.size : Int) < 6) = false := decide_eq_false hT6
  have hTb : (2 : Int) ≤ (T.size : Int) := by omega
  have hTc : (k : Int) ≤ (T.size : Int) := by omega
  have hTd : (2 : Int) ≤ (k : Int) := by omega
  have hwr : wrap64 (k : Int) = k := IntWalk.wrap64_in _ ⟨by omega, by omega⟩
  have C3 : ((U.toList) == (XQ ++ (⟨#[32]⟩ : ByteArray) ++ XH ++ ⟨#[10]⟩).toList) = true := by rw [c3]; exact beq_same' U
  have g1 : ¬ 9223372036854775807 < 6 + XQ.size := by omega
  have g2 : ¬ 9223372036854775807 < 6 + XQ.size + 1 := by omega
  have g3 : ¬ 9223372036854775807 < 6 + XQ.size + 1 + XH.size := by omega
  have g4 : ¬ 9223372036854775807 < 8 + XS.size := by omega
  have g5 : ¬ 9223372036854775807 < XQ.size + 1 := by omega
  have g6 : ¬ 9223372036854775807 < XQ.size + 1 + XH.size := by omega
  have g7 : ¬ 9223372036854775807 < XQ.size + 1 + XH.size + 1 := by omega
  have HTK := Lib.hid hTk
  clear c1 c2 c3 l1 l2 n1 n2 hl hi t1 t2 t3 hXQ hXH hXS hJ1 hJ2 hU hT hS hSl hhm hS0 hS1 hS2 hS3 hru hrf hy hyl hk2 hTk
  go_enter Tryz.func5, Tryz.ntmps5
  go_wp2_with fail
  refine (haw _ ht hm).mono ?_
  rintro e w1 ⟨rfl, hb1⟩
  go_wp2_with fail
  refine (hdc _).mono ?_
  rintro e w2 ⟨rfl, hb2⟩
  have hB2 := seqB hb1 hb2
  go_wp2_with fail
  try rw [HD.out]
  refine (hx _).mono ?_
  rintro e w3 ⟨rfl, hb3⟩
  have hB3 := seqB hB2 hb3
  go_wp2_with fail
  rw [C1.out]
  refine (r1 _ (ht.below hB3) (hm.below hB3)).mono ?_
  rintro e w4 ⟨rfl, hb4⟩
  have hB4 := seqB hB3 hb4
  go_wp2_with (go_at_call 12; refine (num_any _ _).mono ?_; rintro e w' ⟨rfl, rfl⟩)
  rw [C2.out]
  refine (r2 _ (ht.below hB4) (hm.below hB4)).mono ?_
  rintro e w5 ⟨rfl, hb5⟩
  have hB5 := seqB hB4 hb5
  go_wp2_with (go_at_call 12; refine (num_any _ _).mono ?_; rintro e w' ⟨rfl, rfl⟩)
  refine (hdc _).mono ?_
  rintro e w6 ⟨rfl, hb6⟩
  have hB6 := seqB hB5 hb6
  go_wp2_with fail
  try rw [HD.out]
  refine (hx _).mono ?_
  rintro e w7 ⟨rfl, hb7⟩
  go_wp2_with fail
  go_ret
  exact ⟨rfl, seqB hB6 hb7⟩
theorem lframes_walk (p : Int) (a0 : ByteArray) (ml : Int) (w : World) (ht : TabW w) (hm : MaxLenIs w ml) :
    Calls Tryz.prog 5 #[.int .i64 p, .string a0] w fun e w' => e = .returned (.bool true) ∧ Below w.heap.size w w' := by
  by_cases h : a0.size ≤ 200
  · exact lframes_short p a0 ml w h ht hm
  · exact lframes_long p a0 ml w (by omega) ht hm
end Go.Proofs.YteigigepmoicaaaGreatDoor
